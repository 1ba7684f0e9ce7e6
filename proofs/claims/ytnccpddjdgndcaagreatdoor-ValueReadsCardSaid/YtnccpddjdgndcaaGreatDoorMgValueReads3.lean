/- MERGED BY A PROGRAM OF MINE (pmg.py) out of my own texts, pruned, in their order: Ira, Irb, Print, ShelfV, Unq, UqF, UqG, UqH, Name, CondFit, Fit02, ReadT, RdT, PfD, RdN, Canon, OrdKey, Same, VInj, VBack, Rany, Rquot, ReadAny, AwLaid, Globs, VPrints, VReads. -/
import Derived.Test.YtnccpddjdgndcaaGreatDoorMgValueReads2
import Derived.Test.YtnccpddjdgndcaaGreatDoorRfDef
import Derived.Handy
import Derived.BigQuiet
import Derived.Deep.QuietTactic
import Derived.Deep.LoopGhost
import Derived.Lib.OthersKept
import Derived.Laws.RangeAny
import Derived.Lib.IndexLaws
import Derived.Lib.IndexAny
import Derived.Shelf.Strings.IndexAnyAll
import Derived.Test.YtnccpddjdgndcaaGreatDoorVal
import Derived.Test.YtnccpddjdgndcaaGreatDoorQuo
import Derived.Test.YtnccpddjdgndcaaGreatDoorTabs
import Derived.Lib.AppendIntMem
import Derived.Shelf.Unicode.ValidAny
import Derived.Test.YtnccpddjdgndcaaGreatDoorProg
import Derived.Lib.PathFns
import Derived.Lib.ValidAsc
import Derived.BigGuardPart
import Derived.Test.YtnccpddjdgndcaaGreatDoorUqE
import Derived.Deep.DeepCutAuto
import Derived.Deep.CutRange
import Derived.Test.YtnccpddjdgndcaaGreatDoorFmtP
import Derived.Test.YtnccpddjdgndcaaGreatDoorRows
import Derived.WalkKit
import Derived.WalkSpells
import Derived.WalkLawsBesides
import Derived.Lib.Hide
import Derived.Lib.IndexBytes
import Derived.Test.YtnccpddjdgndcaaGreatDoorCond
import Derived.RegionCalls
import Derived.Deep.RegionWith
import Derived.Deep.RegionHeld3
import Derived.Lib.ParseIntBTie
import Derived.Lib.AtoiAllCases
import Derived.Lib.ItoaLen
import Derived.Laws.IdiomCopy
import Derived.Test.YtnccpddjdgndcaaGreatDoorOrd

section
/- THE WALK OF strings.ContainsAny(s, ".eIN") AT ANY BYTES: it answers. -/
namespace Go.Proofs.YtnccpddjdgndcaaGreatDoor.Ira
open Go.RowKit
theorem enc_ways (r : Nat) (h : 128 ≤ r) (hv : Lib.validRune (r : Int) = true) : ∃ c : UInt8, 128 ≤ c.toNat ∧ ((∃ a, Utf8.encode (r : Int) = ⟨#[a, c]⟩) ∨ (∃ a b, Utf8.encode (r : Int) = ⟨#[a, b, c]⟩) ∨ ∃ a b d, Utf8.encode (r : Int) = ⟨#[a, b, d, c]⟩) := by
  have hv2 : Utf8.valid (r : Int) = true := by
    unfold Lib.validRune at hv
    have := of_decide_eq_true hv
    simp [Utf8.valid]; omega
  have c1 : ¬ r < 128 := by omega
  refine ⟨UInt8.ofNat (128 + r % 64), by rw [UInt8.toNat_ofNat']; omega, ?_⟩
  by_cases c2 : r < 2048
  · exact .inl ⟨_, by simp [Utf8.encode, hv2, c1, c2]; rfl⟩
  by_cases c3 : r < 65536
  · exact .inr (.inl ⟨_, _, by simp [Utf8.encode, hv2, c1, c2, c3]; exact ⟨rfl, rfl⟩⟩)
  · exact .inr (.inr ⟨_, _, _, by simp [Utf8.encode, hv2, c1, c2, c3]; exact ⟨rfl, rfl, rfl⟩⟩)
theorem ib_neg : ∀ (l : List UInt8) (c : UInt8), c ∉ l → Lib.indexByte l c < 0 := fun l c h => by
  have h1 := Lib.contains_iff_indexByte l c
  have h2 : l.contains c = false := by simpa using h
  rw [h2] at h1
  have := of_decide_eq_false h1.symm
  omega
theorem c_ascii (i : Nat) (h : i < (⟨#[46, 101, 73, 78]⟩ : ByteArray).size) : ((⟨#[46, 101, 73, 78]⟩ : ByteArray)[i]'h).toNat < 128 := by
  have h4 : i < 4 := h
  match i, h4 with
  | 0, _ => show (46 : UInt8).toNat < 128; decide
  | 1, _ => show (101 : UInt8).toNat < 128; decide
  | 2, _ => show (73 : UInt8).toNat < 128; decide
  | 3, _ => show (78 : UInt8).toNat < 128; decide
theorem c_mem (c : UInt8) (h : 128 ≤ c.toNat) : c ∉ [46, 101, 73, 78] := fun hm => by
  simp only [List.mem_cons, List.not_mem_nil, or_false] at hm
  rcases hm with rfl | rfl | rfl | rfl <;> exact absurd h (by decide)
theorem ib_c (a b : Nat) (c : UInt8) (h : 128 ≤ c.toNat) : Lib.indexByte ((⟨#[46, 101, 73, 78]⟩ : ByteArray).extract a b).data.toList ((c.toNat : Int)).toNat.toUInt8 < 0 := by
  have hb : ((c.toNat : Int)).toNat.toUInt8 = c := by simp
  rw [hb]
  refine ib_neg _ _ fun hm => c_mem c h ?_
  rw [ByteArray.data_extract] at hm
  rw [Array.toList_extract] at hm
  exact List.mem_of_mem_drop (List.mem_of_mem_take hm)
theorem ixc1 (h : 1 < (⟨#[46, 101, 73, 78]⟩ : ByteArray).size) : (⟨#[46, 101, 73, 78]⟩ : ByteArray)[1]'h = 101 := rfl
theorem ixc2 (h : 2 < (⟨#[46, 101, 73, 78]⟩ : ByteArray).size) : (⟨#[46, 101, 73, 78]⟩ : ByteArray)[2]'h = 73 := rfl
theorem ixc3 (h : 3 < (⟨#[46, 101, 73, 78]⟩ : ByteArray).size) : (⟨#[46, 101, 73, 78]⟩ : ByteArray)[3]'h = 78 := rfl
theorem ixe1 (a c : UInt8) (h : 1 < (⟨#[a, c]⟩ : ByteArray).size) : (⟨#[a, c]⟩ : ByteArray)[1]'h = c := rfl
theorem ixe2 (a b c : UInt8) (h : 2 < (⟨#[a, b, c]⟩ : ByteArray).size) : (⟨#[a, b, c]⟩ : ByteArray)[2]'h = c := rfl
theorem ixe3 (a b d c : UInt8) (h : 3 < (⟨#[a, b, d, c]⟩ : ByteArray).size) : (⟨#[a, b, d, c]⟩ : ByteArray)[3]'h = c := rfl
theorem wr2 : IntKind.i64.wrap 2 = 2 := by decide
theorem wr3 : IntKind.i64.wrap 3 = 3 := by decide
theorem wr4 : IntKind.i64.wrap 4 = 4 := by decide
attribute [local go_sem] wr2 wr3 wr4
theorem szc : (⟨#[46, 101, 73, 78]⟩ : ByteArray).size = 4 := rfl
attribute [local go_sem] szc
attribute [local go_sem] ixc1 ixc2 ixc3 ixe1 ixe2 ixe3
theorem inBlock_ret {id : Nat} {Q : Exit → Act → World → Prop} {a : Act} {w : World} : Exit.inBlock id Q .ret a w = Q .ret a w := rfl
theorem then_ret {K : Act → World → Prop} {Q : Exit → Act → World → Prop} {a : Act} {w : World} : Exit.then K Q .ret a w = Q .ret a w := rfl
def AnsI (e : Ending) : Prop := ∃ o : Int, e = .returned (.int .i64 o)
set_option maxRecDepth 200000 in
set_option maxHeartbeats 2000000 in
theorem irune_any (r : Nat) (hr : r ≤ 2147483647) (w : World) : Calls Tryz.prog 76 #[.string (⟨#[46, 101, 73, 78]⟩ : ByteArray), .int .i32 (r : Int)] w fun e w' => AnsI e ∧ Below w.heap.size w w' := by
  by_cases h1 : r < 128
  · refine (Tryz.strings_IndexRune_ascii _ _ w (by omega) (by omega)).mono ?_
    rintro e w' ⟨rfl, rfl⟩
    exact ⟨⟨_, rfl⟩, Below.refl _ _⟩
  have i0 : (0 : Int) ≤ (r : Int) := by omega
  have i1 : ¬ (r : Int) < 128 := by omega
  by_cases h2 : r = 65533
  · subst h2
    go_enter Tryz.func76, Tryz.ntmps76
    go_wp2_with fail
    go_loopg [5, 6] 4 (fun g _ _ wx => ∃ i : Nat, i + g = 4 ∧ wx = w.iter (⟨#[46, 101, 73, 78]⟩ : ByteArray) i)
    case atStart => exact ⟨0, rfl, rfl⟩
    case round =>
      obtain ⟨i, hig, rfl⟩ := hrel
      cases gk with
      | zero =>
        obtain rfl : i = 4 := by omega
        have hnx := run_next_end (P := Tryz.prog) w (⟨#[46, 101, 73, 78]⟩ : ByteArray) 4
        go_wp2_with fail
        go_returns
        exact ⟨⟨_, rfl⟩, (Below.refl _ w).alloc (Nat.le_refl _) _⟩
      | succ g =>
        have hi : i < (⟨#[46, 101, 73, 78]⟩ : ByteArray).size := by show i < 4; omega
        have hx := c_ascii i hi
        have hnx := fun ty => run_next_ascii (P := Tryz.prog) w (⟨#[46, 101, 73, 78]⟩ : ByteArray) i ty hi hx
        have b1 : (((((⟨#[46, 101, 73, 78]⟩ : ByteArray)[i]'hi).toNat : Nat) : Int) == 65533) = false := beq_eq_false_iff_ne.2 (by omega)
        generalize ((⟨#[46, 101, 73, 78]⟩ : ByteArray)[i]'hi).toNat = q at *
        go_wp2_with fail
        go_roundg g
        case measure => omega
        case rel => exact ⟨i + 1, by omega, rfl⟩
  have i2 : ((r : Int) == 65533) = false := beq_eq_false_iff_ne.2 (by omega)
  cases hv : Lib.validRune (r : Int)
  · have HV := Lib.hid hv; clear hv
    go_enter Tryz.func76, Tryz.ntmps76
    go_wp2_with (first | (go_at_call 105; refine (Tryz.utf8_ValidRune _ _).mono ?_; rintro e w1 ⟨rfl, rfl⟩; rw [HV.out]) | fail)
    go_returns
    exact ⟨⟨_, rfl⟩, Below.refl _ _⟩
  · obtain ⟨c, hc, hw⟩ := enc_ways r (by omega) hv
    have HV := Lib.hid hv; clear hv
    have m1 : ((101 : Int) != (c.toNat : Int)) = true := bne_iff_ne.2 (by omega)
    have m2 : ((73 : Int) != (c.toNat : Int)) = true := bne_iff_ne.2 (by omega)
    have m3 : ((78 : Int) != (c.toNat : Int)) = true := bne_iff_ne.2 (by omega)
    rcases hw with ⟨a, he⟩ | ⟨a, b, he⟩ | ⟨a, b, d, he⟩
    · have HE := Lib.hid he; clear he
      go_enter Tryz.func76, Tryz.ntmps76
      go_wp2_with (first | (go_at_call 105; refine (Tryz.utf8_ValidRune _ _).mono ?_; rintro e w1 ⟨rfl, rfl⟩; rw [HV.out]) | fail)
      go_step3
      go_upto_region 5 with (first | (simp only [HE.out]) | fail)
      go_loopw [9] (fun v9 wx => v9 = .int .i64 1 ∧ w1 = wx) (fun _ _ => 0)
      case atStart => exact ⟨rfl, rfl⟩
      case round =>
        obtain ⟨rfl, rfl⟩ := hrel
        go_wp2_with fail
        go_step3
        go_upto_region 6 with fail
        go_region
        obtain ⟨o, ho⟩ : ∃ o, Lib.indexByte ((⟨#[46, 101, 73, 78]⟩ : ByteArray).extract 2 4).data.toList ((c.toNat : Int)).toNat.toUInt8 = o := ⟨_, rfl⟩
        have hneg : o < 0 := by rw [← ho]; exact ib_c 2 4 c hc
        have HO := Lib.hid ho
        clear ho
        go_upto_region 7 with fail
        go_quiet ((go_at_call 107; refine (Tryz.strings_IndexByte _ _ _).mono ?_; rintro e w2 ⟨rfl, rfl⟩; (first | rw [HO.out] | rw [show ∀ x, Lib.indexByte (ByteArray.empty).data.toList x = -1 from fun _ => rfl]); exact ⟨rfl, _, rfl⟩))
        go_wp2_with fail
        simp +zetaDelta only [inBlock_ret, Exit.noGoto_ret, then_ret]
        go_returns
        exact ⟨⟨_, rfl⟩, rfl, rfl, rfl, Nat.le_refl _, fun _ _ => rfl⟩
    · have HE := Lib.hid he; clear he
      go_enter Tryz.func76, Tryz.ntmps76
      go_wp2_with (first | (go_at_call 105; refine (Tryz.utf8_ValidRune _ _).mono ?_; rintro e w1 ⟨rfl, rfl⟩; rw [HV.out]) | fail)
      go_step3
      go_upto_region 5 with (first | (simp only [HE.out]) | fail)
      go_loopw [9] (fun v9 wx => v9 = .int .i64 2 ∧ w1 = wx) (fun _ _ => 0)
      case atStart => exact ⟨rfl, rfl⟩
      case round =>
        obtain ⟨rfl, rfl⟩ := hrel
        go_wp2_with fail
        go_step3
        go_upto_region 6 with fail
        go_region
        obtain ⟨o, ho⟩ : ∃ o, Lib.indexByte ((⟨#[46, 101, 73, 78]⟩ : ByteArray).extract 3 4).data.toList ((c.toNat : Int)).toNat.toUInt8 = o := ⟨_, rfl⟩
        have hneg : o < 0 := by rw [← ho]; exact ib_c 3 4 c hc
        have HO := Lib.hid ho
        clear ho
        go_upto_region 7 with fail
        go_quiet ((go_at_call 107; refine (Tryz.strings_IndexByte _ _ _).mono ?_; rintro e w2 ⟨rfl, rfl⟩; (first | rw [HO.out] | rw [show ∀ x, Lib.indexByte (ByteArray.empty).data.toList x = -1 from fun _ => rfl]); exact ⟨rfl, _, rfl⟩))
        go_wp2_with fail
        simp +zetaDelta only [inBlock_ret, Exit.noGoto_ret, then_ret]
        go_returns
        exact ⟨⟨_, rfl⟩, rfl, rfl, rfl, Nat.le_refl _, fun _ _ => rfl⟩
    · have HE := Lib.hid he; clear he
      go_enter Tryz.func76, Tryz.ntmps76
      go_wp2_with (first | (go_at_call 105; refine (Tryz.utf8_ValidRune _ _).mono ?_; rintro e w1 ⟨rfl, rfl⟩; rw [HV.out]) | fail)
      go_step3
      go_upto_region 5 with (first | (simp only [HE.out]) | fail)
      go_loopw [9] (fun v9 wx => v9 = .int .i64 3 ∧ w1 = wx) (fun _ _ => 0)
      case atStart => exact ⟨rfl, rfl⟩
      case round =>
        obtain ⟨rfl, rfl⟩ := hrel
        go_wp2_with fail
        go_step3
        go_upto_region 6 with fail
        go_region
        obtain ⟨o, ho⟩ : ∃ o, Lib.indexByte ((⟨#[46, 101, 73, 78]⟩ : ByteArray).extract 4 4).data.toList ((c.toNat : Int)).toNat.toUInt8 = o := ⟨_, rfl⟩
        have hneg : o < 0 := by rw [← ho]; exact ib_c 4 4 c hc
        have HO := Lib.hid ho
        clear ho
        go_upto_region 7 with fail
        go_quiet ((go_at_call 107; refine (Tryz.strings_IndexByte _ _ _).mono ?_; rintro e w2 ⟨rfl, rfl⟩; (first | rw [HO.out] | rw [show ∀ x, Lib.indexByte (ByteArray.empty).data.toList x = -1 from fun _ => rfl]); exact ⟨rfl, _, rfl⟩))
        go_wp2_with fail
        simp +zetaDelta only [inBlock_ret, Exit.noGoto_ret, then_ret]
        go_returns
        exact ⟨⟨_, rfl⟩, rfl, rfl, rfl, Nat.le_refl _, fun _ _ => rfl⟩
end Go.Proofs.YtnccpddjdgndcaaGreatDoor.Ira
end

section
/- THE WALK OF strings.ContainsAny(s, ".eIN") AT ANY BYTES: it answers. -/
namespace Go.Proofs.YtnccpddjdgndcaaGreatDoor.Ira
open Go.RowKit Go.Lib
theorem ascii_c : ∀ (j : Nat) b, (⟨#[46, 101, 73, 78]⟩ : ByteArray).data.toList[j]? = some b → b.toNat < 128 := fun j b h => by
  have hm : b ∈ [46, 101, 73, 78] := List.mem_of_getElem? h
  simp only [List.mem_cons, List.not_mem_nil, or_false] at hm
  rcases hm with rfl | rfl | rfl | rfl <;> decide
theorem below_iterAt {w wx : World} {k : Nat} {s : ByteArray} {p : Nat} (h : Below w.heap.size w wx) (hk : w.heap.size ≤ k) : Below w.heap.size w (wx.iterAt k s p) :=
  ⟨h.os, h.tape, h.output, by show _ ≤ (wx.heap.setIfInBounds k _).size; rw [Array.size_setIfInBounds]; exact h.size, fun q hq => by
    show (wx.heap.setIfInBounds k _)[q]? = _
    rw [Array.getElem?_setIfInBounds_ne (by omega)]
    exact h.block q hq⟩
theorem dec_pos (s : ByteArray) (i : Nat) (h : i < s.size) : 1 ≤ (Utf8.decode s i).2 := by
  by_cases ha : (s[i]'h).toNat < 128
  · rw [decode_ascii s i h ha]; exact Nat.le_refl _
  · exact (decode_high s i h (by omega)).2
set_option maxRecDepth 20000 in
set_option maxHeartbeats 2000000 in
theorem iany_any (s : ByteArray) (hs : s.size ≤ 100000) (w : World) : Calls Tryz.prog 47 #[.string s, .string (⟨#[46, 101, 73, 78]⟩ : ByteArray)] w fun e w' => AnsI e ∧ Below w.heap.size w w' := by
  by_cases h8 : 8 < s.size
  · refine (Tryz.strings_IndexAny_long (zero_of_info (n := 256) (by kernel_rfl)).1 s (⟨#[46, 101, 73, 78]⟩ : ByteArray) w (by decide) h8 (by omega) (by decide) ascii_c).mono ?_
    rintro e w' ⟨rfl, rfl⟩
    exact ⟨⟨_, rfl⟩, ((Below.refl _ _).alloc (Nat.le_refl _) _).alloc (by simp) _⟩
  have h8z : decide ((8 : Int) < (s.size : Int)) = false := decide_eq_false (by omega)
  go_enter Tryz.func47, Tryz.ntmps47
  go_wp2_with (first | (go_at_call 77; refine (Tryz.strings_shouldUseASCIISet _ _).mono ?_; rintro e w' ⟨rfl, hw⟩; rw [hw, h8z]) | fail)
  go_loopg [9, 10] s.size (fun g _ _ wx => ∃ i : Nat, s.size ≤ i + g ∧ wx.heap[w.heap.size]? = some (.stringIter s i) ∧ Below w.heap.size w wx)
  case atStart => exact ⟨0, by omega, heap_alloc_new w _, (Below.refl _ w).alloc (Nat.le_refl _) _⟩
  case round =>
    obtain ⟨i, hig, hk, hb⟩ := hrel
    by_cases hi : i < s.size
    · cases gk with
      | zero => omega
      | succ g =>
        have hnx := fun ty => run_next_any_at (P := Tryz.prog) wr w.heap.size s i ty hk hi
        have hd := dec_pos s i hi
        have hr := decode_le s i
        have hk2 := fun p => iterAt_heap wr w.heap.size s i p hk
        have hbi := fun p => below_iterAt (s := s) (p := p) hb (Nat.le_refl _)
        generalize Utf8.decode s i = q at *
        go_wp2_with (first | (go_at_call 76; refine (irune_any q.1 hr _).mono ?_; rintro e w2 ⟨⟨o, rfl⟩, hb2⟩) | fail)
        · go_returns
          exact ⟨⟨_, rfl⟩, (hbi _).trans (hb2.mono (hbi _).size)⟩
        · go_roundg g
          case measure => omega
          case rel => exact ⟨i + q.2, by omega, (hb2.block _ (Array.getElem?_eq_some_iff.1 (hk2 _)).1).trans (hk2 _), (hbi _).trans (hb2.mono (hbi _).size)⟩
    · have hnx := fun ty => run_next_end_at (P := Tryz.prog) wr w.heap.size s i ty hk hi
      go_wp2_with fail
      go_returns
      exact ⟨⟨_, rfl⟩, hb⟩
def AnsB (e : Ending) : Prop := ∃ b : Bool, e = .returned (.bool b)
theorem cany_any (s : ByteArray) (hs : s.size ≤ 100000) (w : World) : Calls Tryz.prog 30 #[.string s, .string (⟨#[46, 101, 73, 78]⟩ : ByteArray)] w fun e w' => AnsB e ∧ Below w.heap.size w w' := by
  go_enter Tryz.func30, Tryz.ntmps30
  go_wp2_with (first | (go_at_call 47; refine (iany_any s hs _).mono ?_; rintro e w2 ⟨⟨o, rfl⟩, hb2⟩) | fail)
  go_returns
  exact ⟨⟨_, rfl⟩, hb2⟩
end Go.Proofs.YtnccpddjdgndcaaGreatDoor.Ira
end

section
/- THE WALK OF value.Print: what a value's text is. -/
namespace Go.Proofs.YtnccpddjdgndcaaGreatDoor.Val
open Go.RowKit Flt
def yesT : List UInt8 := [121, 101, 115]
def noT : List UInt8 := [110, 111]
/-- a value's text -/
def vT (v : V) : List UInt8 :=
  if v.kind == 0 then Lib.itoa v.int else if v.kind == 1 then Fmt.fltT (Ord.canon v.num) else if v.kind == 2 then Quo.quoteT Lib.goPrintTabs v.text else if v.yes then yesT else noT
theorem canon_lt (x : Nat) (h : x < 18446744073709551616) : Ord.canon x < 18446744073709551616 := by
  unfold Ord.canon Ord.nan0
  split
  · decide
  · split
    · decide
    · exact h
theorem flt_ascii (b : Nat) : ∀ c ∈ Fmt.ftoaT b, c.toNat < 128 := by
  intro c hc
  have hx : Fmt.bexp b < 2048 := Nat.mod_lt _ (by decide)
  unfold Fmt.ftoaT at hc
  split at hc
  · split at hc
    · simp only [List.mem_cons, List.not_mem_nil, or_false] at hc
      rcases hc with rfl | rfl | rfl <;> decide
    · split at hc
      · simp only [List.mem_cons, List.not_mem_nil, or_false] at hc
        rcases hc with rfl | rfl | rfl | rfl <;> decide
      · simp only [List.mem_cons, List.not_mem_nil, or_false] at hc
        rcases hc with rfl | rfl | rfl | rfl <;> decide
  · have hs : ∀ c ∈ Fmt.sgn (Fmt.bneg b), c.toNat < 128 := by
      intro c hc
      unfold Fmt.sgn at hc
      split at hc
      · rw [List.mem_singleton] at hc; subst hc; decide
      · cases hc
    rename_i h1
    split at hc
    · rcases List.mem_append.1 hc with hc | hc
      · exact hs c hc
      · rw [List.mem_singleton] at hc; subst hc; decide
    · rename_i h2
      rcases List.mem_append.1 hc with hc | hc
      · exact hs c hc
      · rcases (Fmt.Num.mk (by omega) (by omega) : Fmt.Num b).isN c hc with h | h | h | h | h
        · unfold Fmt.IsD at h; omega
        all_goals (subst h; decide)
theorem flt_len (b : Nat) : (Fmt.ftoaT b).length ≤ 1000 := by
  have hx : Fmt.bexp b < 2048 := Nat.mod_lt _ (by decide)
  unfold Fmt.ftoaT
  split
  · split
    · decide
    · split <;> decide
  · have hs : (Fmt.sgn (Fmt.bneg b)).length ≤ 1 := by unfold Fmt.sgn; split <;> decide
    rename_i h1
    split
    · rw [List.length_append, List.length_singleton]; omega
    · rename_i h2
      have hn := (Fmt.Num.mk (by omega) (by omega) : Fmt.Num b)
      obtain ⟨f1, f2, f3, f4⟩ := hn.facts
      obtain ⟨g1, g2, g3, g4⟩ := hn.nd
      rw [List.length_append]
      have : (Fmt.numT b).length ≤ 900 := by
        unfold Fmt.numT
        generalize Fmt.digs _ = D at *
        generalize (Lib.nDigits (Fmt.short (Fmt.fm b) (Fmt.fE b)).1 : Nat) = n at *
        generalize (Fmt.short (Fmt.fm b) (Fmt.fE b)).2 = p at *
        unfold Fmt.gText
        split
        · unfold Fmt.eText Fmt.exps
          simp only [List.length_append, List.length_cons, List.length_nil]
          split <;> split <;> split <;> simp <;> omega
        · unfold Fmt.fText
          rw [List.length_append]
          split <;> split <;> simp <;> omega
      omega
theorem badd (s t : List UInt8) : (⟨s.toArray⟩ : ByteArray) ++ ⟨t.toArray⟩ = ⟨(s ++ t).toArray⟩ := by
  apply ByteArray.ext
  simp
theorem quote_at (t : List UInt8) (W : World) (hl : t.length ≤ 1000000) (hW : Tab.Tabs W) :
    Calls Tryz.prog 37 #[.string ⟨t.toArray⟩] W fun e w' => e = .returned (.string ⟨(Quo.quoteT Lib.goPrintTabs t).toArray⟩) ∧ Below W.heap.size W w' := by
  have h : (⟨t.toArray⟩ : ByteArray).size = t.length := by simp [ByteArray.size]
  exact Tryz.strconv_Quote Lib.goPrintTabs ⟨t.toArray⟩ W (by rw [h]; omega) hW.prt hW.utf
theorem itoa_at (n : Int) (W : World) (h0 : -9223372036854775808 ≤ n) (h1 : n ≤ 9223372036854775807) (hW : Fmt.P10 W) :
    Calls Tryz.prog 35 #[.int .i64 n, .int .i64 10] W fun e w' => e = .returned (.string ⟨(Lib.itoa n).toArray⟩) ∧ Below W.heap.size W w' := by
  refine (Tryz.strconv_FormatInt_10 n h0 h1 W hW).mono ?_
  rintro e w' ⟨rfl, k, os, rfl⟩
  exact ⟨rfl, Go.Lib.below_grow _ _ (Nat.le_refl _) _ _⟩
theorem any_at (t : List UInt8) (W : World) (ha : ∀ c ∈ t, c.toNat < 128) (hl : t.length ≤ 1000) :
    Calls Tryz.prog 30 #[.string ⟨t.toArray⟩, .string ⟨#[46, 101, 73, 78]⟩] W fun e w' => e = .returned (.bool (Fmt.marked t)) ∧ Below W.heap.size W w' := by
  have h : (⟨t.toArray⟩ : ByteArray).size = t.length := by simp [ByteArray.size]
  refine Tryz.strings_ContainsAny_laid ⟨t.toArray⟩ ⟨#[46, 101, 73, 78]⟩ W (by rw [h]; omega) (by decide) (fun j b hb => ha b ?_) (fun j b hb => ?_)
  · exact List.mem_of_getElem? hb
  · have : b ∈ [46, 101, 73, 78] := List.mem_of_getElem? hb
    simp only [List.mem_cons, List.not_mem_nil, or_false] at this
    rcases this with rfl | rfl | rfl | rfl <;> decide
set_option maxRecDepth 20000 in
set_option maxHeartbeats 1000000 in
theorem vprint_any (k n : Int) (x : Nat) (t : List UInt8) (y : Bool) (w : World) (hx : x < 18446744073709551616) (h0 : -9223372036854775808 ≤ n) (h1 : n ≤ 9223372036854775807) (hl : t.length ≤ 1000000) (hT : Tab.Tabs w) :
    Calls Tryz.prog 13 #[val k n x t y] w fun e w' => e = .returned (.string ⟨(vT ⟨k, n, x, t, y⟩).toArray⟩) ∧ Below w.heap.size w w' := by
  have hr : vT ⟨k, n, x, t, y⟩ = (if k == 0 then Lib.itoa n else if k == 1 then Fmt.fltT (Ord.canon x) else if k == 2 then Quo.quoteT Lib.goPrintTabs t else if y then yesT else noT) := rfl
  have HT := Lib.hid hT; clear hT
  cases q0 : (k == 0)
  · cases q1 : (k == 1)
    · cases q2 : (k == 2)
      · rw [q0, q1, q2] at hr
        cases y
        all_goals
          rw [hr]; clear hr
          go_enter Tryz.func13, Tryz.ntmps13
          go_wp2
          go_ret
          exact ⟨rfl, balloc _ _⟩
      · rw [q0, q1, q2] at hr
        have HR := Lib.hid hr; clear hr
        have hq := fun W hW => quote_at t W hl hW
        have HQ := Lib.hid hq; clear hq
        go_enter Tryz.func13, Tryz.ntmps13
        go_wp2_with (first | (go_at_call 37; refine (HQ.out _ (HT.out.below (by first | exact balloc _ _ | exact (balloc _ _).drew) (Nat.le_refl _))).mono ?_; rintro e w1 ⟨rfl, hb1⟩; have HB := Lib.hid hb1; clear hb1) | fail)
        go_ret
        exact ⟨by rw [HR.out]; rfl, btrans (by first | exact balloc _ _ | exact (balloc _ _).drew) HB.out⟩
    · rw [q0, q1] at hr
      have hf := fun W hW => Fmt.format_any (Ord.canon x) W (canon_lt x hx) (Tab.Tabs.pow hW) (Tab.Tabs.p10 hW)
      have hm := fun W => any_at (Fmt.ftoaT (Ord.canon x)) W (flt_ascii _) (flt_len _)
      have ht : Fmt.fltT (Ord.canon x) = if Fmt.marked (Fmt.ftoaT (Ord.canon x)) then Fmt.ftoaT (Ord.canon x) else Fmt.ftoaT (Ord.canon x) ++ [46, 48] := rfl
      have hlen := flt_len (Ord.canon x)
      rw [ht] at hr
      clear ht
      generalize Fmt.ftoaT (Ord.canon x) = s at *
      cases hmk : Fmt.marked s
      all_goals
        rw [hmk] at hr hm
        clear hmk
        have HR := Lib.hid hr; clear hr
        have HF := Lib.hid hf; have HM := Lib.hid hm; clear hf hm
        go_enter Tryz.func13, Tryz.ntmps13
        go_wp2_with (first | (go_at_call 32; refine (Ord.canon_any _ _).mono ?_; rintro e w' ⟨rfl, rfl⟩) | (go_at_call 36; refine (HF.out _ (HT.out.below (by first | exact balloc _ _ | exact (balloc _ _).drew) (Nat.le_refl _))).mono ?_; rintro e w1 ⟨rfl, hb1⟩; have HB := Lib.hid hb1; clear hb1) | (go_at_call 30; refine (HM.out _).mono ?_; rintro e w2 ⟨rfl, hb2⟩; have HC := Lib.hid hb2; clear hb2) | fail)
        go_ret
        exact ⟨by rw [HR.out]; first | rfl | exact congrArg (fun z => Ending.returned (Value.string z)) (badd s [46, 48]), btrans (btrans (by first | exact balloc _ _ | exact (balloc _ _).drew) HB.out) HC.out⟩
  · rw [q0] at hr
    have HR := Lib.hid hr; clear hr
    have hf := fun W hW => itoa_at n W h0 h1 (Tab.Tabs.p10 hW)
    have HF := Lib.hid hf; clear hf
    go_enter Tryz.func13, Tryz.ntmps13
    go_wp2_with (first | (go_at_call 35; refine (HF.out _ (HT.out.below (by first | exact balloc _ _ | exact (balloc _ _).drew) (Nat.le_refl _))).mono ?_; rintro e w1 ⟨rfl, hb1⟩; have HB := Lib.hid hb1; clear hb1) | fail)
    go_ret
    exact ⟨by rw [HR.out]; rfl, btrans (by first | exact balloc _ _ | exact (balloc _ _).drew) HB.out⟩
end Go.Proofs.YtnccpddjdgndcaaGreatDoor.Val
end

section
/- utf8.ValidString's contract, laid by the kit's tool at this seat's dump, its remarks struck. -/
namespace Go.Proofs
open Go.Shelf
def Tryz.lays196_ren : Go.Shelf.Ren := ⟨fun | 196 => 72 | 259 => 102 | n => n, fun | 9 => 9 | 4 => 4 | 3 => 3 | 5 => 5 | 12 => 12 | 119 => 127 | 0 => 0 | 46 => 113 | 139 => 130 | 138 => 129 | 53 => 80 | n => n, fun | 3 => 3 | 4 => 4 | n => n⟩
theorem Tryz.lays196 : Go.Proofs.Lays.n196 Tryz.prog Tryz.lays196_ren := {
  mixed := by kernel_rfl
  f196 := Tryz.func72.trans (congrArg some (by kernel_rfl))
  f259 := Tryz.func102.trans (congrArg some (by kernel_rfl))
  t0 := Tryz.underlying0
  a0 := Tryz.isAgg0
  z0 := Tryz.sizeOf0
  v0 := Tryz.zeroValue0
  t3 := Tryz.underlying3
  a3 := Tryz.isAgg3
  z3 := Tryz.sizeOf3
  v3 := Tryz.zeroValue3
  t4 := Tryz.underlying4
  a4 := Tryz.isAgg4
  z4 := Tryz.sizeOf4
  v4 := Tryz.zeroValue4
  t5 := Tryz.underlying5
  a5 := Tryz.isAgg5
  z5 := Tryz.sizeOf5
  v5 := Tryz.zeroValue5
  t9 := Tryz.underlying9
  a9 := Tryz.isAgg9
  z9 := Tryz.sizeOf9
  v9 := Tryz.zeroValue9
  t12 := Tryz.underlying12
  a12 := Tryz.isAgg12
  z12 := Tryz.sizeOf12
  v12 := Tryz.zeroValue12
  t46 := Tryz.underlying113
  a46 := Tryz.isAgg113
  z46 := Tryz.sizeOf113
  v46 := Tryz.zeroValue113
  t53 := Tryz.underlying80
  a53 := Tryz.isAgg80
  z53 := Tryz.sizeOf80
  v53 := Tryz.zeroValue80
  t119 := Tryz.underlying127
  a119 := Tryz.isAgg127
  z119 := Tryz.sizeOf127
  t138 := Tryz.underlying129
  a138 := Tryz.isAgg129
  z138 := Tryz.sizeOf129
  v138 := Tryz.zeroValue129
  t139 := Tryz.underlying130
  a139 := Tryz.isAgg130
  z139 := Tryz.sizeOf130
  v139 := Tryz.zeroValue130
  g3 := by kernel_rfl
  g4 := by kernel_rfl }
end Go.Proofs
end

section
/- THE WALK OF strconv.Unquote AT A TEXT BETWEEN QUOTES that needs no escapes. -/
namespace Go.Proofs.YtnccpddjdgndcaaGreatDoor.Unq
open Go.RowKit Go.Lib
theorem ibs_call (s : ByteArray) (c : Int) (w : World) : (callFunc 101 #[.string s, .int .u8 c]).run Tryz.prog w = .ok (.value (.int .i64 (Lib.indexByte s.data.toList c.toNat.toUInt8))) w := by
  rw [run_callFunc_extern Tryz.func101 (by kernel_rfl) (by kernel_rfl) (by kernel_rfl) (e := Extern.BytealgIndexByte.indexByte) (by kernel_rfl), Lib.run_indexByteString]
  rfl
set_option maxHeartbeats 400000 in
theorem index_any (s : ByteArray) (c : Int) (w : World) : Calls Tryz.prog 70 #[.string s, .int .u8 c] w fun e w' => e = .returned (.int .i64 (Lib.indexByte s.data.toList c.toNat.toUInt8)) ∧ w = w' := by
  go_enter Tryz.func70, Tryz.ntmps70
  go_wp2_with (first | (simp only [ibs_call]) | fail)
  go_ret
  exact ⟨rfl, rfl⟩
theorem contains_of (s : ByteArray) (c : Int) (b : Bool) (hb : (Lib.indexByte s.data.toList c.toNat.toUInt8 != -1) = b) (w : World) : Calls Tryz.prog 71 #[.string s, .int .u8 c] w fun e w' => e = .returned (.bool b) ∧ w = w' := by
  go_enter Tryz.func71, Tryz.ntmps71
  go_wp2_with (go_at_call 70; refine (index_any _ _ _).mono ?_; rintro e w' ⟨rfl, rfl⟩)
  go_ret
  exact ⟨rfl, rfl⟩
theorem ix_none : ∀ (l : List UInt8) (c : UInt8), c ∉ l → Lib.indexByte l c = -1
  | [], _, _ => rfl
  | a :: l, c, h => by
    have h1 : (a == c) = false := by rw [beq_eq_false_iff_ne]; exact fun e => h (by simp [e])
    unfold Lib.indexByte
    rw [h1, ix_none l c (fun m => h (by simp [m]))]; rfl
theorem ext_list2 (l : List UInt8) (a b : Nat) : (⟨l.toArray⟩ : ByteArray).extract a b = ⟨((l.drop a).take (b - a)).toArray⟩ := by
  have h := Lib.extract_data (⟨l.toArray⟩ : ByteArray) a b
  apply ByteArray.ext
  rw [← Array.toArray_toList (xs := ((⟨l.toArray⟩ : ByteArray).extract a b).data), h]
end Go.Proofs.YtnccpddjdgndcaaGreatDoor.Unq
end

section
/- THE WALK OF strconv.unquote AT ANY TEXT THAT A QUOTE BEGINS. -/
namespace Go.Proofs.YtnccpddjdgndcaaGreatDoor.Unq
open Go.RowKit Go.Lib Go.Proofs.YtnccpddjdgndcaaGreatDoor.Quo
/-- what unquote reads of the text behind the first quote -/
def uqR (r : List UInt8) : Option (List UInt8 × List UInt8) :=
  if Lib.indexByte r 34 < 0 then none
  else if 92 ∉ r.take (Lib.indexByte r 34).toNat ∧ 10 ∉ r.take (Lib.indexByte r 34).toNat ∧ Lib.validD (r.take (Lib.indexByte r 34).toNat) = true then some (r.take (Lib.indexByte r 34).toNat, r.drop ((Lib.indexByte r 34).toNat + 1))
  else uqGo (r.length + 1) r []
/-- what unquote answers -/
def UnR (s : ByteArray) (o : Option (List UInt8 × List UInt8)) (e : Ending) : Prop :=
  match o with
  | none => ∃ (t : TypeId) (x : Value), e = .returned (.tuple #[.string ⟨#[]⟩, .string s, .iface t x])
  | some (a, b) => e = .returned (.tuple #[.string ⟨a.toArray⟩, .string ⟨b.toArray⟩, .nilIface])
theorem app_len (v : Int) (mb : Bool) : (app v mb).length ≤ 4 := by
  unfold app
  split
  · simp
  · rw [List.length_map]
    unfold encodeRuneZ
    repeat' split
    all_goals simp
/-- an append of a byte -/
theorem wpList_byte {ops : Array Oper} {rest : List Oper} {o : Oper} {a : Act} {Q : Exit → Act → World → Prop} {w0 W : World} {base : Nat} {txt : List UInt8}
    (hgd : o.guard = none) (s x : Operand) (ho : o.op = .call { callee := .builtin .append, args := #[s, x], argTypes := #[95, 95] })
    (hs : Fmt.St w0 W base none (a.eval s) txt) (ad : Addr) (c : Nat) (b : UInt8) (hx : a.eval x = .slice (some ad) 1 c)
    (hnews : ∀ j u, [Fmt.e8 b][j]? = some u → W.cell? (ad.add j) = some u) (hb : txt.length ≤ 1000000)
    (h : ∀ v' w', Fmt.St w0 w' base none v' (txt ++ [b]) → wpList Tryz.prog ops Q rest (a.put o.dst v') w') : wpList Tryz.prog ops Q (o :: rest) a W := by
  obtain ⟨i0, hi, hz⟩ := Option.map_eq_some_iff.1 Fmt.info_u8
  injection hz with hz0 hzz
  injection hzz with hz1 hz2
  refine wpList_append_own _ hgd s x 95 ho base 5 i0 (.int .u8 0) 1 1 Tryz.underlying95 hi hz0 hz1 hz2 rfl (by decide) _ _ _ rfl hs.own ad 1 c [Fmt.e8 b] hx rfl hnews
    (by intro u hu; simp at hu; subst hu; rfl) (by unfold maxLen; omega) (by omega) hs.size ?_
  intro v' w3 ho3 hg _
  exact h v' w3 (hs.step0 ho3 hg rfl rfl)
/-- an append of a rune -/
theorem st_rune {w0 W w3 : World} {base : Nat} {v v' : Value} {txt : List UInt8} {r : Int} (h : Fmt.St w0 W base none v txt) (o : Obj)
    (ho : w3.ownsRow base 5 1 v' (txt.length + (Lib.runeCells r).length) (txt.map Fmt.e8 ++ Lib.runeCells r)) (hg : (W.alloc o).grownBy w3 v.ownBlock) : Fmt.St w0 w3 base none v' (txt ++ (encodeRuneZ r).map tb) := by
  refine h.step ho hg ?_ ?_
  · unfold Lib.runeCells
    rw [List.map_map]
    apply List.map_congr_left
    intro x hx
    have hb := Lib.encodeRuneZ_byte r x hx
    show Value.int .u8 x = Value.int .u8 ((tb x).toNat : Int)
    rw [tb_nat hb.1 hb.2]
  · unfold Lib.runeCells
    rw [List.length_map, List.length_map]
theorem list_ne (s : ByteArray) (h : 0 < s.size) : s.data.toList = (s[0]'h) :: s.data.toList.drop 1 := uqc_at s h
theorem uqGo_nil (g : Nat) (out : List UInt8) : uqGo (g + 1) [] out = none := rfl
theorem uqGo_end (g : Nat) (c : UInt8) (r out : List UInt8) (h : (c.toNat : Int) = 34) : uqGo (g + 1) (c :: r) out = some (out, r) := by unfold uqGo; simp only; rw [if_pos h]
theorem uqGo_nl (g : Nat) (c : UInt8) (r out : List UInt8) (h : ¬ (c.toNat : Int) = 34) (h2 : (c.toNat : Int) = 10) : uqGo (g + 1) (c :: r) out = none := by unfold uqGo; simp only; rw [if_neg h, if_pos h2]
theorem uqGo_none (g : Nat) (c : UInt8) (r out : List UInt8) (h : ¬ (c.toNat : Int) = 34) (hu : uqc (c :: r) = none) : uqGo (g + 1) (c :: r) out = none := by
  unfold uqGo; simp only; rw [if_neg h]
  split
  · rfl
  · rw [hu]
theorem uqGo_eq (g : Nat) (c : UInt8) (r out : List UInt8) : uqGo (g + 1) (c :: r) out = if (c.toNat : Int) = 34 then some (out, r) else if (c.toNat : Int) = 10 then none else match uqc (c :: r) with
        | none => none
        | some (v, mb, t) => uqGo g t (out ++ app v mb) := rfl
theorem uqGo_some (g : Nat) (c : UInt8) (r out : List UInt8) (v : Int) (mb : Bool) (t : List UInt8) (h : ¬ (c.toNat : Int) = 34) (h2 : ¬ (c.toNat : Int) = 10) (hu : uqc (c :: r) = some (v, mb, t)) : uqGo (g + 1) (c :: r) out = uqGo g t (out ++ app v mb) := by
  rw [uqGo_eq, if_neg h, if_neg h2, hu]
theorem hexGo_bds : ∀ (n : Nat) (l : List UInt8) (v x : Int) (q : List UInt8), -2147483648 ≤ v ∧ v ≤ 2147483647 → hexGo n l v = some (x, q) → q.length ≤ l.length ∧ -2147483648 ≤ x ∧ x ≤ 2147483647
  | 0, l, v, x, q, hv, h => by
    unfold hexGo at h
    cases h
    exact ⟨Nat.le_refl _, hv⟩
  | n + 1, [], v, x, q, hv, h => by cases h
  | n + 1, c :: l, v, x, q, hv, h => by
    unfold hexGo at h
    split at h
    · cases h
    · obtain ⟨a, b⟩ := hexGo_bds n l _ x q (or_i32_bd _ _) h
      exact ⟨by rw [List.length_cons]; omega, b⟩
theorem octGo_bds : ∀ (n : Nat) (l : List UInt8) (v x : Int) (q : List UInt8), -2147483648 ≤ v ∧ v ≤ 2147483647 → octGo n l v = some (x, q) → q.length ≤ l.length ∧ -2147483648 ≤ x ∧ x ≤ 2147483647
  | 0, l, v, x, q, hv, h => by
    unfold octGo at h
    cases h
    exact ⟨Nat.le_refl _, hv⟩
  | n + 1, [], v, x, q, hv, h => by cases h
  | n + 1, c :: l, v, x, q, hv, h => by
    unfold octGo at h
    split at h
    · cases h
    · obtain ⟨a, b⟩ := octGo_bds n l _ x q (or_i32_bd _ _) h
      exact ⟨by rw [List.length_cons]; omega, b⟩
theorem esc1_bds (e v : Int) (h : esc1 e = some v) : 0 ≤ v ∧ v ≤ 92 := by
  unfold esc1 at h
  repeat' split at h
  all_goals first | (cases h; done) | (injection h with h; omega)
/-- the number of a sign, and that some of the text is taken -/
theorem uqc_bds (l : List UInt8) (v : Int) (mb : Bool) (t : List UInt8) (h : uqc l = some (v, mb, t)) : t.length < l.length ∧ -2147483648 ≤ v ∧ v ≤ 2147483647 := by
  cases l with
  | nil => cases h
  | cons c r =>
    have hc := c.toNat_lt
    by_cases b34 : (c.toNat : Int) = 34
    · rw [uqc_34 c r b34] at h; cases h
    by_cases b128 : 128 ≤ (c.toNat : Int)
    · rw [uqc_128 c r b34 b128] at h
      simp only [Option.some.injEq, Prod.mk.injEq] at h
      obtain ⟨h1, _, h3⟩ := h
      obtain ⟨s1, s2, s3, s4⟩ := sym_ok (c :: r) (by simp)
      subst h3
      have hd : (decodeL (c :: r)).1 ≤ 1114111 := by
        by_cases hb : (decodeL (c :: r)).2 = 1 ∧ (decodeL (c :: r)).1 = 65533
        · omega
        · have hs : symOf (c :: r) = ((decodeL (c :: r)).1 : Int) := by unfold symOf; rw [if_neg hb]
          unfold Sym at s1
          omega
      rw [List.length_drop]
      omega
    by_cases b92 : (c.toNat : Int) = 92
    · cases r with
      | nil => rw [uqc_end c b92] at h; cases h
      | cons e t2 =>
        rw [uqc_92 c e t2 b92] at h
        have he := e.toNat_lt
        rw [List.length_cons, List.length_cons]
        split at h
        · rename_i v2 hv2
          simp only [Option.some.injEq, Prod.mk.injEq] at h
          obtain ⟨rfl, _, rfl⟩ := h
          have := esc1_bds _ _ hv2
          omega
        · split at h
          · cases hh : hexGo (escN (e.toNat : Int)) t2 0 with
            | none => rw [hh] at h; cases h
            | some xq =>
              obtain ⟨x, q⟩ := xq
              have hb := hexGo_bds _ _ 0 x q (by omega) hh
              rw [hh] at h
              unfold hexR at h
              simp only at h
              split at h
              · simp only [Option.some.injEq, Prod.mk.injEq] at h
                obtain ⟨rfl, _, rfl⟩ := h
                omega
              · split at h
                · simp only [Option.some.injEq, Prod.mk.injEq] at h
                  obtain ⟨rfl, _, rfl⟩ := h
                  omega
                · cases h
          · split at h
            · cases hh : octGo 2 t2 ((e.toNat : Int) - 48) with
              | none => rw [hh] at h; cases h
              | some xq =>
                obtain ⟨x, q⟩ := xq
                have hb := octGo_bds _ _ ((e.toNat : Int) - 48) x q (by omega) hh
                rw [hh] at h
                unfold octR at h
                simp only at h
                split at h
                · cases h
                · simp only [Option.some.injEq, Prod.mk.injEq] at h
                  obtain ⟨rfl, _, rfl⟩ := h
                  omega
            · cases h
    · rw [uqc_pl c r b34 b128 b92] at h
      simp only [Option.some.injEq, Prod.mk.injEq] at h
      obtain ⟨rfl, _, rfl⟩ := h
      rw [List.length_cons]
      omega
end Go.Proofs.YtnccpddjdgndcaaGreatDoor.Unq
end

section
/- THE WALK OF strconv.unquote AT ANY TEXT THAT A QUOTE BEGINS (the slow road). -/
namespace Go.Proofs.YtnccpddjdgndcaaGreatDoor.Unq
open Go.RowKit Go.Lib Go.Proofs.YtnccpddjdgndcaaGreatDoor.Quo
def szOf : Value → Nat
  | .string s => s.size
  | _ => 0
theorem st_pass {w0 W W2 : World} {base : Nat} {v : Value} {txt : List UInt8} (h : Fmt.St w0 W base none v txt) (hb : Below W.heap.size W W2) : Fmt.St w0 W2 base none v txt :=
  ⟨Fmt.own_low h.own hb h.own_lt, fun p hp => (by cases hp), h.low.trans (hb.mono h.size), Nat.le_trans h.size hb.size⟩
theorem err_below {w w' : World} (h : ErrS w) (hb : Below w.heap.size w w') : ErrS w' := by
  obtain ⟨t, x, h⟩ := h
  exact ⟨t, x, Tab.cell_below hb (Nat.le_refl _) h⟩
theorem idx_in (k : UInt8) (a : List UInt8) (hk : k ≠ 34) : (Lib.indexByte (34 :: (a ++ [34])) k != -1) = decide (k ∈ a) := by
  by_cases h : k ∈ a
  · obtain ⟨x, y, e, _, hi⟩ := ix_cases k (34 :: (a ++ [34])) (by simp [h])
    rw [hi, decide_eq_true h]
    simp
  · rw [ix_none _ k (by simp [h, hk]), decide_eq_false h]
    rfl
theorem conv_back {w W : World} {base : Nat} {v : Value} {out : List UInt8} (h : Fmt.St w W base none v out) : (convert 95 9 v).run Tryz.prog W = .ok (.string ⟨out.toArray⟩) W := by
  rcases Go.Joins.ownsRow_forms h.own with ⟨e, e0⟩ | ⟨g, cap, e⟩
  · have : out = [] := List.length_eq_zero_iff.1 e0
    subst e this
    rw [run_convert_bytes_string W 95 9 5 none 0 0 Tryz.underlying95 Tryz.underlying5 Tryz.underlying9]
    rfl
  · have ho := h.own
    rw [e] at ho
    subst e
    exact run_convert_bytes_back W 95 9 5 ⟨g, 0, none⟩ cap out Tryz.underlying95 Tryz.underlying5 Tryz.underlying9 (Fmt.own_cells ho)
theorem u8_wrap (v : Int) : IntKind.u8.wrap v = v % 256 := by go_num
theorem new_byte (w : World) (v : Int) (t : TypeId) : ∀ j u, [Fmt.e8 (tb (v % 256))][j]? = some u → (w.alloc (.cells #[.int .u8 (IntKind.u8.wrap v)] t)).cell? ((⟨w.heap.size, 0, none⟩ : Addr).add j) = some u := by
  have e : Fmt.e8 (tb (v % 256)) = .int .u8 (IntKind.u8.wrap v) := by
    show Value.int .u8 ((tb (v % 256)).toNat : Int) = _
    rw [tb_nat (by omega) (by omega), u8_wrap]
  rw [e]
  exact Fmt.cells_new1 w _ t
set_option maxRecDepth 20000 in
set_option maxHeartbeats 4000000 in
/-- the slow road: a text's index of the next quote is there, and it is not plain -/
theorem unq_slow (s t u : ByteArray) (n : Nat) (H : Option (List UInt8 × List UInt8)) (b92 b10 bv : Bool) (hq : (!b92 && !b10 && bv) = false) (hs : s.size ≤ 10000) (h0 : 0 < s.size) (h34 : ((s[0]'h0).toNat : Int) = 34) (ht : s.extract 1 s.size = t) (hn : n + 2 ≤ s.size)
    (hts : t.size + 1 = s.size) (hix : Lib.indexByte t.data.toList 34 = (n : Int)) (hu : s.extract 0 (n + 2) = u) (hc1 : (Lib.indexByte u.data.toList 92 != -1) = b92) (hc2 : (Lib.indexByte u.data.toList 10 != -1) = b10)
    (hv : Lib.validD (s.extract 1 (n + 1)).data.toList = bv) (hH : uqGo (t.size + 1) t.data.toList [] = H) (w : World) (hE : ErrS w) (hT : Tab.Tabs w) :
    Calls Tryz.prog 46 #[.string s, .bool true] w fun e w' => UnR s H e ∧ Below w.heap.size w w' := by
  obtain ⟨i0, hi, hz0, hz1, hz2⟩ := info_parts Fmt.info_u8
  have hxs : (s.extract 1 (n + 1)).size ≤ 1000000 := by simp [ByteArray.size_extract]; omega
  have hva := fun W (hW : Lib.Utf8Tabs 3 4 W) => (Go.Proofs.Any.utf8_ValidString Tryz.lays196 (s.extract 1 (n + 1)) W (by omega) hW)
  rw [hv] at hva
  have hd1 := fun W => contains_of u 92 b92 (by rw [show ((92 : Int).toNat.toUInt8) = 92 from rfl]; exact hc1) W
  have hd2 := fun W => contains_of u 10 b10 (by rw [show ((10 : Int).toNat.toUInt8) = 10 from rfl]; exact hc2) W
  have hin := fun W => index_any t 34 W
  rw [show ((34 : Int).toNat.toUInt8) = 34 from rfl, hix] at hin
  have HVA := Lib.hid hva; have HD1 := Lib.hid hd1; have HD2 := Lib.hid hd2; have HIN := Lib.hid hin; have HT := Lib.hid hT; have HE := Lib.hid hE; have HH := Lib.hid hH
  obtain ⟨c, hcap⟩ : ∃ c : Nat, 3 * ((n : Int) + 2) / 2 = (c : Int) := ⟨3 * (n + 2) / 2, by omega⟩
  have hcb : c ≤ 100000 := by omega
  have j0 : (0 : Int) < (s.size : Int) := by omega
  have j1 : (1 : Int) ≤ (s.size : Int) := by omega
  have j2 : ¬ (s.size : Int) < 2 := by omega
  have j3 : (n : Int) + 2 ≤ (s.size : Int) := by omega
  have j4 : (0 : Int) ≤ (n : Int) + 2 := by omega
  have j5 : ¬ (n : Int) < 0 := by omega
  clear hva hd1 hd2 hin hT hE hH hv hc1 hc2 hix
  go_enter Tryz.func46, Tryz.ntmps46
  go_upto_region 25 with (first | (go_at_call 70; refine (HIN.out _).mono ?_; rintro e w' ⟨rfl, rfl⟩) | fail)
  go_cut [99] from 88 to 98 (fun v wx => v = .bool (!b92 && !b10) ∧ w = wx)
  case first => as_aux_lemma =>
    have ARM : True := trivial
    cases b92 <;> cases b10
    all_goals
      go_wp2_with (first | (go_at_call 71; ((with_reducible refine (HD1.out _).mono ?_); rintro e w' ⟨rfl, rfl⟩)) | (go_at_call 71; ((with_reducible refine (HD2.out _).mono ?_); rintro e w' ⟨rfl, rfl⟩)) | fail)
      go_meet
      exact ⟨rfl, rfl⟩
  case rest => as_aux_lemma =>
    obtain ⟨rfl, rfl⟩ := hcut
    go_upto_if 99 with fail
    go_cut [] from 99 to 143 (fun wx => Hid (Below w.heap.size w wx))
    case first => as_aux_lemma =>
      cases hqq : (!b92 && !b10)
      · go_wp2_with fail
        go_meet
        exact Lib.hid (Below.refl _ _)
      · rw [hqq, Bool.true_and] at hq
        subst hq
        go_wp2_with (first | (go_at_call 72; refine (HVA.out _ HT.out.utf).mono ?_; rintro e w1 ⟨rfl, hb1⟩) | fail)
        go_meet
        exact Lib.hid hb1
    case rest => as_aux_lemma =>
      have HBW := hcut
      go_wp2_with (first | (at_make; refine wpList_make_own _ rfl _ _ 95 rfl w.heap.size 5 i0 (.int .u8 0) 1 Tryz.underlying95 hi hz0 hz1 _ _ _ c rfl rfl (by first | rfl | assumption) (by rw [hz2]; omega) (by unfold maxLen; omega) HBW.out.size ?_; intro w1 hown hg) | fail)
      have HS1 := Lib.hid (⟨hown, fun p hp => (by cases hp), HBW.out.grown hg HBW.out.size (by intro k hk; cases hk), Nat.le_trans HBW.out.size hg.size⟩ : Fmt.St w w1 w.heap.size none _ [])
      clear hown hg
      go_loopw [0, 14] (fun v0 v14 wr => ∃ (q : ByteArray) (out : List UInt8) (g : Nat), v0 = .string q ∧ Hid (Fmt.St w wr w.heap.size none v14 out) ∧ q.size + 1 ≤ g ∧ q.size ≤ 10000 ∧ out.length + 4 * q.size ≤ 50000 ∧ Hid (uqGo g q.data.toList out = H)) (fun v0 _ _ => szOf v0)
      case atStart => exact ⟨t, [], t.size + 1, rfl, Lib.hid HS1.out, by omega, by omega, by simp; omega, Lib.hid HH.out⟩
      case round =>
        obtain ⟨q, out, g, rfl, HS, hg1, hq1, ho1, HG⟩ := hrel
        clear HS1
        obtain ⟨tE, xE, hc⟩ := err_below HE.out HS.out.low
        by_cases hq0 : q.size = 0
        · have k0 : ¬ (0 : Int) < (q.size : Int) := by omega
          have hg := HG.out
          have e0 : q.data.toList = [] := List.length_eq_zero_iff.1 (by rw [Array.length_toList]; exact hq0)
          rw [e0, show g = (g - 1) + 1 by omega, uqGo_nil] at hg
          have HN := Lib.hid hg.symm
          clear hg e0 hq0
          go_wp2_with fail
          go_quiet (fail)
          go_wp2_with fail
          refine bodyPost_ret (v := .tuple #[.string ⟨#[]⟩, .string s, .iface tE xE]) (by simp [results, Tryz.results46, go_sem]; try rfl) rfl ?_
          exact ⟨by rw [HN.out]; exact ⟨_, _, rfl⟩, Val.bdrewN HS.out.low nq⟩
        have hp : 0 < q.size := by omega
        have k0 : (0 : Int) < (q.size : Int) := by omega
        have eq0 := list_ne q hp
        by_cases b34 : ((q[0]'hp).toNat : Int) = 34
        · have hg := HG.out
          rw [eq0, show g = (g - 1) + 1 by omega, uqGo_end _ _ _ _ b34] at hg
          have HN := Lib.hid hg.symm
          have hx := ext_end q 1
          have HX := Lib.hid hx
          have k1 : (1 : Int) ≤ (q.size : Int) := by omega
          have b1 : (((q[0]'hp).toNat : Int) != 34) = false := by simp [b34]
          have b2 : (((q[0]'hp).toNat : Int) == 34) = true := by simp [b34]
          have hcv := conv_back HS.out
          clear hg hx eq0
          go_wp2_with fail
          refine bodyPost_ret (v := .tuple #[.string ⟨out.toArray⟩, .string (q.extract 1 q.size), .nilIface]) (by simp [results, Tryz.results46, go_sem]; try rfl) rfl ?_
          exact ⟨by rw [HN.out, HX.out]; rfl, HS.out.low⟩
        have b1 : (((q[0]'hp).toNat : Int) != 34) = true := by simpa using b34
        have hcall := uq_any q (by omega) wr (err_below HE.out HS.out.low) (HT.out.below HS.out.low (Nat.le_refl _))
        cases hu : uqc q.data.toList with
        | none =>
          rw [hu] at hcall
          have HC := Lib.hid hcall
          have hg := HG.out
          rw [eq0, show g = (g - 1) + 1 by omega, uqGo_none _ _ _ _ b34 (by rw [← eq0]; exact hu)] at hg
          have HN := Lib.hid hg.symm
          clear hg hcall eq0
          obtain ⟨b10, hb10⟩ : ∃ b, (((q[0]'hp).toNat : Int) == 10) = b := ⟨_, rfl⟩
          cases b10
          all_goals
            go_wp2_with (first | (go_at_call 74; refine HC.out.mono ?_; rintro e w1 ⟨⟨vv, mm, qq, tt, xx, rfl⟩, hb1⟩; obtain ⟨tF, xF, hcF⟩ := err_below HE.out (st_pass HS.out hb1).low) | fail)
            go_quiet (fail)
            go_wp2_with fail
            refine bodyPost_ret (v := .tuple #[.string ⟨#[]⟩, .string s, .iface tF xF]) (by simp [results, Tryz.results46, go_sem]; try rfl) rfl ?_
            exact ⟨by rw [HN.out]; exact ⟨_, _, rfl⟩, Val.bdrewN (st_pass HS.out hb1).low nq⟩
        | some x =>
          obtain ⟨v, mb, t2⟩ := x
          rw [hu] at hcall
          have HC := Lib.hid hcall
          have hbd := uqc_bds _ _ _ _ hu
          have hlq : q.data.toList.length = q.size := by rw [Array.length_toList]; rfl
          rw [hlq] at hbd
          by_cases h10 : ((q[0]'hp).toNat : Int) = 10
          · have hg := HG.out
            rw [eq0, show g = (g - 1) + 1 by omega, uqGo_nl _ _ _ _ b34 h10] at hg
            have HN := Lib.hid hg.symm
            have b10 : (((q[0]'hp).toNat : Int) == 10) = true := by simp [h10]
            clear hg hcall eq0 hlq
            go_wp2_with (first | (go_at_call 74; refine HC.out.mono ?_; rintro e w1 ⟨hR, hb1⟩; obtain rfl : e = _ := hR; obtain ⟨tF, xF, hcF⟩ := err_below HE.out (st_pass HS.out hb1).low) | fail)
            go_quiet (fail)
            go_wp2_with fail
            refine bodyPost_ret (v := .tuple #[.string ⟨#[]⟩, .string s, .iface tF xF]) (by simp [results, Tryz.results46, go_sem]; try rfl) rfl ?_
            exact ⟨by rw [HN.out]; exact ⟨_, _, rfl⟩, Val.bdrewN (st_pass HS.out hb1).low nq⟩
          · have hg := HG.out
            rw [eq0, show g = (g - 1) + 1 by omega, uqGo_some _ _ _ _ _ _ _ b34 h10 (by rw [← eq0]; exact hu)] at hg
            have b10 : (((q[0]'hp).toNat : Int) == 10) = false := by simpa using h10
            have hal := app_len v mb
            have ht2 : (⟨t2.toArray⟩ : ByteArray).size = t2.length := by show t2.toArray.size = _; simp
            by_cases hcase : v < 128 ∨ mb = false
            · have ha : app v mb = [tb (v % 256)] := by unfold app; rw [if_pos hcase]
              rw [ha] at hg hal
              have HG2 := Lib.hid hg
              have hmb : ((decide (v < 128)) || !mb) = true := by simpa using hcase
              clear hg hcall eq0 hlq ha hcase
              obtain ⟨bL, hbL⟩ : ∃ b, decide (v < 128) = b := ⟨_, rfl⟩
              rw [hbL] at hmb
              cases bL <;> cases mb
              case false.true => cases hmb
              all_goals
                try (have vL : ¬ v < 128 := by simpa using hbL)
                try (have vL : v < 128 := by simpa using hbL)
                clear hmb hbL
                go_wp2_with (first
                | (go_at_call 74; refine HC.out.mono ?_; rintro e w1 ⟨hR, hb1⟩; obtain rfl : e = _ := hR; have HS2 := Lib.hid (st_pass HS.out hb1))
                  | (at_builtin; refine wpList_byte rfl _ _ rfl (HS2.out.alloc _) _ 1 (tb (v % 256)) rfl (new_byte _ _ _) (by omega) ?_; intro v' w3 hs3) | fail)
                exact ⟨⟨⟨t2.toArray⟩, out ++ [tb (v % 256)], g - 1, rfl, Lib.hid hs3, by omega, by omega, by simp at hal ⊢; omega, HG2⟩, by simp [szOf]; omega⟩
            · have ha : app v mb = (encodeRuneZ v).map tb := by unfold app; rw [if_neg hcase]
              rw [ha] at hg hal
              have HG2 := Lib.hid hg
              have vL : ¬ v < 128 := fun h => hcase (Or.inl h)
              obtain rfl : mb = true := by
                cases mb
                · exact absurd (Or.inr rfl) hcase
                · rfl
              clear hg hcall eq0 hlq ha hcase
              go_wp2_with (first
                | (go_at_call 74; refine HC.out.mono ?_; rintro e w1 ⟨hR, hb1⟩; obtain rfl : e = _ := hR; have HS2 := Lib.hid (st_pass HS.out hb1))
                | (go_at_call 75; refine (Tryz.utf8_AppendRune_plain w.heap.size _ _ _ v (by omega) (by omega) _ HS2.out.own (by omega) HS2.out.size).mono ?_; rintro e w3 ⟨v', rfl, hown, oo, hg3⟩; have hs3 := st_rune HS2.out oo hown hg3) | fail)
              all_goals first
                | exact ⟨⟨⟨t2.toArray⟩, out ++ (encodeRuneZ v).map tb, g - 1, rfl, Lib.hid hs3, by omega, by omega, by rw [List.length_append]; omega, HG2⟩, by simp [szOf]; omega⟩
                | omega
                | trace_state
end Go.Proofs.YtnccpddjdgndcaaGreatDoor.Unq
end

section
/- THE WALKS OF strconv.unquote AND strconv.Unquote AT ANY TEXT THAT A DOUBLE QUOTE BEGINS. -/
namespace Go.Proofs.YtnccpddjdgndcaaGreatDoor.Unq
open Go.RowKit Go.Lib Go.Proofs.YtnccpddjdgndcaaGreatDoor.Quo
set_option maxRecDepth 20000 in
set_option maxHeartbeats 4000000 in
/-- the quick road, with what stands behind the second quote -/
theorem unq_quick (s t u bd rs : ByteArray) (n : Nat) (hs : s.size ≤ 10000) (h0 : 0 < s.size) (h34 : ((s[0]'h0).toNat : Int) = 34) (ht : s.extract 1 s.size = t) (hn : n + 2 ≤ s.size)
    (hix : Lib.indexByte t.data.toList 34 = (n : Int)) (hu : s.extract 0 (n + 2) = u) (hbd : s.extract 1 (n + 1) = bd) (hrs : s.extract (n + 2) s.size = rs) (hus : u.size = n + 2) (hc1 : (Lib.indexByte u.data.toList 92 != -1) = false) (hc2 : (Lib.indexByte u.data.toList 10 != -1) = false)
    (hv : Lib.validD bd.data.toList = true) (hbs : bd.size ≤ 10000) (hub : u.extract 1 (n + 1) = bd) (w : World) (hT : Tab.Tabs w) :
    Calls Tryz.prog 46 #[.string s, .bool true] w fun e w' => e = .returned (.tuple #[.string bd, .string rs, .nilIface]) ∧ Below w.heap.size w w' := by
  have hva := fun W (hW : Lib.Utf8Tabs 3 4 W) => (Go.Proofs.Any.utf8_ValidString Tryz.lays196 bd W (by omega) hW)
  rw [hv] at hva
  have hd1 := fun W => contains_of u 92 false (by rw [show ((92 : Int).toNat.toUInt8) = 92 from rfl]; exact hc1) W
  have hd2 := fun W => contains_of u 10 false (by rw [show ((10 : Int).toNat.toUInt8) = 10 from rfl]; exact hc2) W
  have hin := fun W => index_any t 34 W
  rw [show ((34 : Int).toNat.toUInt8) = 34 from rfl, hix] at hin
  have HVA := Lib.hid hva; have HD1 := Lib.hid hd1; have HD2 := Lib.hid hd2; have HIN := Lib.hid hin; have HT := Lib.hid hT
  have HUS := Lib.hid hus
  have j0 : (0 : Int) < (s.size : Int) := by omega
  have j1 : (1 : Int) ≤ (s.size : Int) := by omega
  have j2 : ¬ (s.size : Int) < 2 := by omega
  have j3 : (n : Int) + 2 ≤ (s.size : Int) := by omega
  have j4 : (0 : Int) ≤ (n : Int) + 2 := by omega
  have j5 : ¬ (n : Int) < 0 := by omega
  have j6 : (n : Int) + 2 ≤ (u.size : Int) := by omega
  have j7 : (n : Int) + 1 ≤ (u.size : Int) := by omega
  clear hva hd1 hd2 hin hT hv hc1 hc2 hix hus
  go_enter Tryz.func46, Tryz.ntmps46
  go_wp2_with (first
    | (go_at_call 70; refine (HIN.out _).mono ?_; rintro e w' ⟨rfl, rfl⟩)
    | (go_at_call 71; ((with_reducible refine (HD1.out _).mono ?_); rintro e w' ⟨rfl, rfl⟩))
    | (go_at_call 71; ((with_reducible refine (HD2.out _).mono ?_); rintro e w' ⟨rfl, rfl⟩))
    | (go_at_call 72; refine (HVA.out _ HT.out.utf).mono ?_; rintro e w1 ⟨rfl, hb1⟩) | fail)
  go_quiet (fail)
  go_wp2_with fail
  refine bodyPost_ret (v := .tuple #[.string bd, .string rs, .nilIface]) (by simp [results, Tryz.results46, go_sem]; exact ⟨hub, hrs⟩) rfl ?_
  exact ⟨rfl, Val.bdrewN hb1 nq⟩
set_option maxRecDepth 20000 in
set_option maxHeartbeats 4000000 in
/-- no second quote -/
theorem unq_open (s t : ByteArray) (hs : s.size ≤ 10000) (h0 : 0 < s.size) (h34 : ((s[0]'h0).toNat : Int) = 34) (ht : s.extract 1 s.size = t) (hix : Lib.indexByte t.data.toList 34 = -1) (w : World) (hE : ErrS w) :
    Calls Tryz.prog 46 #[.string s, .bool true] w fun e w' => UnR s none e ∧ Below w.heap.size w w' := by
  obtain ⟨tE, xE, hc⟩ := hE
  have hin := fun W => index_any t 34 W
  rw [show ((34 : Int).toNat.toUInt8) = 34 from rfl, hix] at hin
  have HIN := Lib.hid hin
  have j0 : (0 : Int) < (s.size : Int) := by omega
  have j1 : (1 : Int) ≤ (s.size : Int) := by omega
  clear hin hix
  by_cases h2 : s.size < 2
  · have j2 : (s.size : Int) < 2 := by omega
    go_enter Tryz.func46, Tryz.ntmps46
    go_wp2_with fail
    go_quiet (fail)
    go_wp2_with fail
    refine bodyPost_ret (v := .tuple #[.string ⟨#[]⟩, .string s, .iface tE xE]) (by simp [results, Tryz.results46, go_sem]; try rfl) rfl ?_
    exact ⟨⟨_, _, rfl⟩, Val.bdrewN (Below.refl _ _) nq⟩
  · have j2 : ¬ (s.size : Int) < 2 := by omega
    go_enter Tryz.func46, Tryz.ntmps46
    go_wp2_with (first | (go_at_call 70; refine (HIN.out _).mono ?_; rintro e w' ⟨rfl, rfl⟩) | fail)
    go_quiet (fail)
    go_wp2_with fail
    refine bodyPost_ret (v := .tuple #[.string ⟨#[]⟩, .string s, .iface tE xE]) (by simp [results, Tryz.results46, go_sem]; try rfl) rfl ?_
    exact ⟨⟨_, _, rfl⟩, Val.bdrewN (Below.refl _ _) nq⟩
theorem unquote_any (r : List UInt8) (hs : r.length ≤ 9000) (w : World) (hE : ErrS w) (hT : Tab.Tabs w) :
    Calls Tryz.prog 46 #[.string ⟨(34 :: r).toArray⟩, .bool true] w fun e w' => UnR ⟨(34 :: r).toArray⟩ (uqR r) e ∧ Below w.heap.size w w' := by
  have hz : (⟨(34 :: r).toArray⟩ : ByteArray).size = r.length + 1 := by show (34 :: r).toArray.size = _; simp
  have ht : (⟨(34 :: r).toArray⟩ : ByteArray).extract 1 (⟨(34 :: r).toArray⟩ : ByteArray).size = ⟨r.toArray⟩ := ext_end _ 1
  unfold uqR
  by_cases hm : (34 : UInt8) ∈ r
  · obtain ⟨a, b, rfl, ha, hi⟩ := ix_cases 34 r hm
    rw [List.length_append, List.length_cons] at hs hz
    rw [hi, if_neg (by omega)]
    have et : (a ++ 34 :: b).take a.length = a := List.take_left' rfl
    have ed : (a ++ 34 :: b).drop (a.length + 1) = b := by rw [← List.drop_drop, List.drop_left' rfl]; rfl
    rw [show (a.length : Int).toNat = a.length by omega, et, ed]
    have hu : (⟨(34 :: (a ++ 34 :: b)).toArray⟩ : ByteArray).extract 0 (a.length + 2) = ⟨(34 :: (a ++ [34])).toArray⟩ := by
      rw [ext_list2]
      congr 2
      rw [List.drop_zero, show 34 :: (a ++ 34 :: b) = (34 :: (a ++ [34])) ++ b by simp]
      exact List.take_left' (by simp)
    have hbd : (⟨(34 :: (a ++ 34 :: b)).toArray⟩ : ByteArray).extract 1 (a.length + 1) = ⟨a.toArray⟩ := by
      rw [ext_list2]
      congr 2
    have hrs : (⟨(34 :: (a ++ 34 :: b)).toArray⟩ : ByteArray).extract (a.length + 2) (⟨(34 :: (a ++ 34 :: b)).toArray⟩ : ByteArray).size = ⟨b.toArray⟩ := by
      rw [ext_end]
      congr 2
    have hus : (⟨(34 :: (a ++ [34])).toArray⟩ : ByteArray).size = a.length + 2 := by show (34 :: (a ++ [34])).toArray.size = _; simp
    have hub : (⟨(34 :: (a ++ [34])).toArray⟩ : ByteArray).extract 1 (a.length + 1) = ⟨a.toArray⟩ := by
      rw [ext_list2]
      congr 2
      exact List.take_left' (by simp)
    have has : (⟨a.toArray⟩ : ByteArray).size = a.length := by show a.toArray.size = _; simp
    have hts : (⟨(a ++ 34 :: b).toArray⟩ : ByteArray).size = a.length + 1 + b.length := by show (a ++ 34 :: b).toArray.size = _; simp; omega
    by_cases hq : 92 ∉ a ∧ 10 ∉ a ∧ Lib.validD a = true
    · rw [if_pos hq]
      exact unq_quick _ _ _ _ _ a.length (by omega) (by omega) rfl ht (by omega) hi hu hbd hrs hus (by rw [idx_in 92 a (by decide)]; simpa using hq.1) (by rw [idx_in 10 a (by decide)]; simpa using hq.2.1) hq.2.2 (by omega) hub w hT
    · rw [if_neg hq]
      refine unq_slow _ _ _ a.length _ (decide (92 ∈ a)) (decide (10 ∈ a)) (Lib.validD a) ?_ (by omega) (by omega) rfl ht (by omega) (by omega) hi hu (idx_in 92 a (by decide)) (idx_in 10 a (by decide)) (by rw [hbd]) ?_ w hE hT
      · by_cases q1 : 92 ∈ a
        · rw [decide_eq_true q1]; rfl
        · by_cases q2 : 10 ∈ a
          · rw [decide_eq_true q2]; simp
          · have : ¬ Lib.validD a = true := fun h => hq ⟨q1, q2, h⟩
            simp [this]
      · rw [hts, List.length_append, List.length_cons]
        rw [show a.length + 1 + b.length = a.length + (b.length + 1) by omega]
  · have hi := ix_none r 34 hm
    rw [hi, if_pos (by omega)]
    exact unq_open _ _ (by omega) (by omega) rfl ht hi w hE
set_option maxHeartbeats 1000000 in
theorem unqP_eq (r : List UInt8) : unqP r = match uqR r with | some (a, []) => some a | _ => none := by
  unfold unqP uqR
  split
  · rfl
  · simp only
    split
    · split
      · rename_i h; rw [h]
      · rename_i h
        split
        · rename_i e; injection e with e; injection e with e1 e2; exact absurd e2 h
        · rfl
    · split <;> simp_all
/-- what Unquote answers -/
def UQ (o : Option (List UInt8)) (e : Ending) : Prop :=
  match o with
  | none => ∃ (t : TypeId) (x : Value), e = .returned (.tuple #[.string ⟨#[]⟩, .iface t x])
  | some a => e = .returned (.tuple #[.string ⟨a.toArray⟩, .nilIface])
set_option maxRecDepth 20000 in
set_option maxHeartbeats 2000000 in
theorem Unquote_any (r : List UInt8) (hs : r.length ≤ 9000) (w : World) (hE : ErrS w) (hT : Tab.Tabs w) :
    Calls Tryz.prog 29 #[.string ⟨(34 :: r).toArray⟩] w fun e w' => UQ (unqP r) e ∧ Below w.heap.size w w' := by
  have hu := unquote_any r hs w hE hT
  have hc := fun w1 (h : Below w.heap.size w w1) => err_below hE h
  have HC := Lib.hid hc
  rw [unqP_eq]
  have hlen : 0 < (34 :: r).length := by simp
  generalize (34 :: r) = l at *
  generalize uqR r = o at *
  have HU := Lib.hid hu
  clear hu hc hE hT
  match o with
  | none =>
    go_enter Tryz.func29, Tryz.ntmps29
    go_wp2_with (first | (go_at_call 46; refine HU.out.mono ?_; rintro e w1 ⟨⟨tE, xE, rfl⟩, hb1⟩; obtain ⟨tF, xF, hcF⟩ := HC.out w1 hb1) | fail)
    go_quiet (fail)
    go_wp2_with fail
    refine bodyPost_ret (v := .tuple #[.string ⟨#[]⟩, .iface tF xF]) (by simp [results, Tryz.results29, go_sem]; try rfl) rfl ?_
    exact ⟨⟨_, _, rfl⟩, Val.bdrewN hb1 nq⟩
  | some (a, []) =>
    go_enter Tryz.func29, Tryz.ntmps29
    go_wp2_with (first | (go_at_call 46; refine HU.out.mono ?_; rintro e w1 ⟨hR, hb1⟩; obtain rfl : e = _ := hR) | fail)
    refine bodyPost_ret (v := .tuple #[.string ⟨a.toArray⟩, .nilIface]) (by simp [results, Tryz.results29, go_sem]; try rfl) rfl ?_
    exact ⟨rfl, hb1⟩
  | some (a, c :: b) =>
    have hz : (0 : Int) < ((⟨(c :: b).toArray⟩ : ByteArray).size : Int) := by
      have : (⟨(c :: b).toArray⟩ : ByteArray).size = b.length + 1 := by show (c :: b).toArray.size = _; simp
      omega
    generalize (⟨(c :: b).toArray⟩ : ByteArray) = q at *
    go_enter Tryz.func29, Tryz.ntmps29
    go_wp2_with (first | (go_at_call 46; refine HU.out.mono ?_; rintro e w1 ⟨hR, hb1⟩; obtain rfl : e = _ := hR; obtain ⟨tF, xF, hcF⟩ := HC.out w1 hb1) | fail)
    go_quiet (fail)
    go_wp2_with fail
    refine bodyPost_ret (v := .tuple #[.string ⟨#[]⟩, .iface tF xF]) (by simp [results, Tryz.results29, go_sem]; try rfl) rfl ?_
    exact ⟨⟨_, _, rfl⟩, Val.bdrewN hb1 nq⟩
end Go.Proofs.YtnccpddjdgndcaaGreatDoor.Unq
end

section
/- THE WALK OF event.Name. -/
namespace Go.Proofs.YtnccpddjdgndcaaGreatDoor.Sc
open Go.RowKit
theorem ret_bool {a b : Bool} (h : a = b) : Ending.returned (.bool a) = .returned (.bool b) := by rw [h]
end Go.Proofs.YtnccpddjdgndcaaGreatDoor.Sc
end

section
/- THE WALK OF the laws' fit of package cond: it prints 'a < 3'. -/
namespace Go.Proofs.YtnccpddjdgndcaaGreatDoor.Val
open Go.RowKit Flt
theorem run_store_flt (P : Program) (w : World) (a : Addr) (m : Mode) (k : FloatKind) (b : Nat) : (store a (.float k b) m).run P w = stored P w a (.float k b) m := run_store P w a _ m rfl
attribute [local go_sem] run_store_flt
theorem size1 {w w1 : World} {o : Obj} (hb : Below (w.alloc o).heap.size (w.alloc o) w1) : w.heap.size < w1.heap.size := Nat.lt_of_lt_of_le (by show w.heap.size < (w.alloc o).heap.size; simp) hb.size
end Go.Proofs.YtnccpddjdgndcaaGreatDoor.Val
end

section
/- THE WALK OF the fit of chapter 02's laws: it reads "3.0" and prints "a". -/
namespace Go.Proofs.YtnccpddjdgndcaaGreatDoor.Val
open Go.RowKit Flt
attribute [local go_sem] run_store_flt
/-- three, as a number -/
abbrev F3 : Nat := 4613937818241073152
theorem vT_3 : vT ⟨1, 0, F3, [], false⟩ = [51, 46, 48] := by decide +kernel
theorem vT_a : vT ⟨2, 0, 0, [97], false⟩ = [34, 97, 34] := by decide +kernel
theorem any3 (W : World) : Calls Tryz.prog 30 #[Pf.t3, .string ⟨#[46, 101, 73, 78]⟩] W fun e w' => e = .returned (.bool true) ∧ Below W.heap.size W w' :=
  (any_at [51, 46, 48] W (by decide) (by decide)).mono fun _ _ ⟨h1, h2⟩ => ⟨h1, h2⟩
theorem right3 (W : World) : Calls Tryz.prog 12 #[val 1 0 F3 [] false] W fun e w' => e = .returned (.bool true) ∧ Below W.heap.size W w' :=
  (vright_any 1 0 F3 [] false W (by decide)).mono fun _ _ ⟨h1, h2⟩ => ⟨h1, h2⟩
theorem print3 (W : World) (hT : Tab.Tabs W) : Calls Tryz.prog 13 #[val 1 0 F3 [] false] W fun e w' => e = .returned (.string ⟨#[51, 46, 48]⟩) ∧ Below W.heap.size W w' :=
  (vprint_any 1 0 F3 [] false W (by decide) (by decide) (by decide) (by decide) hT).mono fun _ _ ⟨h1, h2⟩ => ⟨by rw [h1, vT_3], h2⟩
theorem printa (W : World) (hT : Tab.Tabs W) : Calls Tryz.prog 13 #[val 2 0 0 [97] false] W fun e w' => e = .returned (.string ⟨#[34, 97, 34]⟩) ∧ Below W.heap.size W w' :=
  (vprint_any 2 0 0 [97] false W (by decide) (by decide) (by decide) (by decide) hT).mono fun _ _ ⟨h1, h2⟩ => ⟨by rw [h1, vT_a], h2⟩
theorem canon3 (W : World) : Calls Tryz.prog 32 #[.float .f64 F3] W fun e w' => e = .returned (.float .f64 F3) ∧ W = w' :=
  (Ord.canon_any F3 W).mono fun _ _ ⟨h1, h2⟩ => ⟨by rw [h1, show Ord.canon F3 = F3 by decide +kernel], h2⟩
theorem set5_at (w : World) (b : Nat) (v0 v1 v2 v3 v4 : Value) (h : ∀ j, j < 5 → (w.cell? ⟨b, j, none⟩).isSome = true) :
    (((((w.setCell ⟨b, 0, none⟩ v0).setCell ⟨b, 1, none⟩ v1).setCell ⟨b, 2, none⟩ v2).setCell ⟨b, 3, none⟩ v3).setCell ⟨b, 4, none⟩ v4).cell? ⟨b, 0, none⟩ = some v0 ∧
    (((((w.setCell ⟨b, 0, none⟩ v0).setCell ⟨b, 1, none⟩ v1).setCell ⟨b, 2, none⟩ v2).setCell ⟨b, 3, none⟩ v3).setCell ⟨b, 4, none⟩ v4).cell? ⟨b, 1, none⟩ = some v1 ∧
    (((((w.setCell ⟨b, 0, none⟩ v0).setCell ⟨b, 1, none⟩ v1).setCell ⟨b, 2, none⟩ v2).setCell ⟨b, 3, none⟩ v3).setCell ⟨b, 4, none⟩ v4).cell? ⟨b, 2, none⟩ = some v2 ∧
    (((((w.setCell ⟨b, 0, none⟩ v0).setCell ⟨b, 1, none⟩ v1).setCell ⟨b, 2, none⟩ v2).setCell ⟨b, 3, none⟩ v3).setCell ⟨b, 4, none⟩ v4).cell? ⟨b, 3, none⟩ = some v3 ∧
    (((((w.setCell ⟨b, 0, none⟩ v0).setCell ⟨b, 1, none⟩ v1).setCell ⟨b, 2, none⟩ v2).setCell ⟨b, 3, none⟩ v3).setCell ⟨b, 4, none⟩ v4).cell? ⟨b, 4, none⟩ = some v4 ∧
    Below b w (((((w.setCell ⟨b, 0, none⟩ v0).setCell ⟨b, 1, none⟩ v1).setCell ⟨b, 2, none⟩ v2).setCell ⟨b, 3, none⟩ v3).setCell ⟨b, 4, none⟩ v4) := by
  have e := World.cell?_setCells_in b [v0, v1, v2, v3, v4] 0 w (fun j hj => by rw [Nat.zero_add]; exact h j hj)
  exact ⟨e 0 (by simp), e 1 (by simp), e 2 (by simp), e 3 (by simp), e 4 (by simp),
    (((((Below.refl b w).setCell (Nat.le_refl _) _).setCell (Nat.le_refl _) _).setCell (Nat.le_refl _) _).setCell (Nat.le_refl _) _).setCell (Nat.le_refl _) _⟩
/-- two boxes laid one behind the other, seen from a later world -/
theorem two_box {w w1 : World} {A B : Array Value} {T U : TypeId} (hb : Below ((w.alloc (.cells A T)).alloc (.cells B U)).heap.size ((w.alloc (.cells A T)).alloc (.cells B U)) w1) :
    (∀ o, w1.cell? ⟨w.heap.size, o, none⟩ = A[o]?) ∧ (∀ o, w1.cell? ⟨w.heap.size + 1, o, none⟩ = B[o]?) ∧ (∀ o, w1.frozen? ⟨w.heap.size, o, none⟩ = false) ∧ (∀ o, w1.frozen? ⟨w.heap.size + 1, o, none⟩ = false) ∧
      w.heap.size + 1 < w1.heap.size ∧ Below w.heap.size w w1 := by
  have hz := size2 hb
  have c : ∀ b o, b < w.heap.size + 2 → w1.cell? ⟨b, o, none⟩ = ((w.alloc (.cells A T)).alloc (.cells B U)).cell? ⟨b, o, none⟩ := fun b o h => hb.cell (p := ⟨b, o, none⟩) (by simp; omega)
  have f : ∀ b o, b < w.heap.size + 2 → w1.frozen? ⟨b, o, none⟩ = ((w.alloc (.cells A T)).alloc (.cells B U)).frozen? ⟨b, o, none⟩ := fun b o h => hb.frozen (p := ⟨b, o, none⟩) (by simp; omega)
  exact ⟨fun o => (c _ o (by omega)).trans (by simp), fun o => (c _ o (by omega)).trans (by simp), fun o => (f _ o (by omega)).trans (by simp), fun o => (f _ o (by omega)).trans (by simp), hz, btrans (balloc2 _ _ _) hb⟩
/-- the second one is written -/
theorem two_set {w w1 : World} {A B : Array Value} {T U : TypeId} (hb : Below ((w.alloc (.cells A T)).alloc (.cells B U)).heap.size ((w.alloc (.cells A T)).alloc (.cells B U)) w1) (hB : B.size = 5) (v0 v1 v2 v3 v4 : Value) :
    ∃ W2, W2 = (((((w1.setCell ⟨w.heap.size + 1, 0, none⟩ v0).setCell ⟨w.heap.size + 1, 1, none⟩ v1).setCell ⟨w.heap.size + 1, 2, none⟩ v2).setCell ⟨w.heap.size + 1, 3, none⟩ v3).setCell ⟨w.heap.size + 1, 4, none⟩ v4) ∧
      (∀ o, W2.cell? ⟨w.heap.size, o, none⟩ = A[o]?) ∧ (W2.cell? ⟨w.heap.size + 1, 0, none⟩ = some v0 ∧ W2.cell? ⟨w.heap.size + 1, 1, none⟩ = some v1 ∧ W2.cell? ⟨w.heap.size + 1, 2, none⟩ = some v2 ∧ W2.cell? ⟨w.heap.size + 1, 3, none⟩ = some v3 ∧ W2.cell? ⟨w.heap.size + 1, 4, none⟩ = some v4) ∧
      (∀ o, W2.frozen? ⟨w.heap.size, o, none⟩ = false) ∧ w.heap.size + 1 < W2.heap.size ∧ Below w.heap.size w W2 := by
  obtain ⟨c0, c1, f0, f1, hz, hl⟩ := two_box hb
  obtain ⟨e0, e1, e2, e3, e4, h2⟩ := set5_at w1 (w.heap.size + 1) v0 v1 v2 v3 v4 (fun j hj => by rw [c1, Array.getElem?_eq_getElem (by omega)]; rfl)
  exact ⟨_, rfl, fun o => (h2.cell (p := ⟨w.heap.size, o, none⟩) (Nat.lt_succ_self _)).trans (c0 o), ⟨e0, e1, e2, e3, e4⟩, fun o => (h2.frozen (p := ⟨w.heap.size, o, none⟩) (Nat.lt_succ_self _)).trans (f0 o), Nat.lt_of_lt_of_le hz h2.size, hl.trans (h2.mono (by omega))⟩
set_option maxRecDepth 20000 in
set_option maxHeartbeats 4000000 in
theorem read3_any (w : World) (hT : Tab.Tabs w) (hP : Pf.PfT w) : Calls Tryz.prog 10 #[Pf.t3] w fun e w' => e = .returned (.tuple #[val 1 0 F3 [] false, .bool true]) ∧ Below w.heap.size w w' := by
  have HT := Lib.hid hT; have HP := Lib.hid hP; clear hT hP
  go_enter Tryz.func10, Tryz.ntmps10
  go_wp2_with (first
    | (go_at_call 30; refine (any3 _).mono ?_; rintro e w1 ⟨rfl, hb1⟩; have HB1 := Lib.hid hb1; obtain ⟨c0, c1, f0, f1, hz1, hl1⟩ := two_box hb1; clear hb1)
    | (go_at_call 31; refine (Pf.parse_3 _ (HP.out.below hl1 (Nat.le_refl _))).mono ?_; rintro e w' ⟨rfl, rfl⟩)
    | (go_at_call 32; refine (canon3 _).mono ?_; rintro e w' ⟨rfl, rfl⟩) | fail)
  obtain ⟨W2, hW2, d0, ⟨e0, e1, e2, e3, e4⟩, g0, hz2, hl2⟩ := two_set HB1.out rfl (.int .i64 1) (.int .i64 0) (.float .f64 F3) (.string ⟨#[]⟩) (.bool false)
  rw [← hW2]
  clear c0 c1 f0 f1 hz1 hl1 HB1 hW2
  have HB := Lib.hid hl2; clear hl2
  go_wp2_with (first
    | (go_at_call 12; refine (right3 _).mono ?_; rintro e w3 ⟨rfl, hb3⟩; obtain ⟨hc3, hf3⟩ := bcell hb3; have hs3 := Nat.lt_of_lt_of_le hz2 hb3.size; have hs3' : w.heap.size < W2.heap.size := by omega)
    | (go_at_call 13; refine (print3 _ (HT.out.below (btrans HB.out hb3) (Nat.le_refl _))).mono ?_; rintro e w4 ⟨rfl, hb4⟩; obtain ⟨hc4, hf4⟩ := bcell hb4; have hs4' : w.heap.size < w3.heap.size := by omega) | fail)
  obtain ⟨r0, r1, r2, r3, r4, hb5⟩ := set5_at w4 w.heap.size (.int .i64 1) (.int .i64 0) (.float .f64 F3) (.string ⟨#[]⟩) (.bool false) (fun j hj => by
    rw [hc4 _ _ (by omega), hc3 _ _ (by omega), d0, Array.getElem?_eq_getElem (by exact hj)]; rfl)
  generalize World.setCell _ _ _ = W5 at *
  refine bodyPost_ret (v := .tuple #[val 1 0 F3 [] false, .bool true]) (by simp [results, Tryz.results10, go_sem, r0, r1, r2, r3, r4]; try rfl) rfl ?_
  exact ⟨rfl, (btrans (btrans HB.out hb3) hb4).trans hb5⟩
set_option maxRecDepth 20000 in
theorem of_a (w : World) : Calls Tryz.prog 27 #[.iface 9 (.string ⟨#[97]⟩)] w fun e w' => e = .returned (.tuple #[val 2 0 0 [97] false, .bool true]) ∧ Below w.heap.size w w' := by
  have t0 : ∀ w, (Instr.typeAssert (.iface 9 (.string ⟨#[97]⟩)) 20 3 true).run Tryz.prog w = .ok (.tuple #[.int .i64 0, .bool false]) w := fun _ => by kernel_rfl
  have t1 : ∀ w, (Instr.typeAssert (.iface 9 (.string ⟨#[97]⟩)) 20 2 true).run Tryz.prog w = .ok (.tuple #[.int .i64 0, .bool false]) w := fun _ => by kernel_rfl
  have t2 : ∀ w, (Instr.typeAssert (.iface 9 (.string ⟨#[97]⟩)) 20 23 true).run Tryz.prog w = .ok (.tuple #[.float .f64 0, .bool false]) w := fun _ => by kernel_rfl
  have t3 : ∀ w, (Instr.typeAssert (.iface 9 (.string ⟨#[97]⟩)) 20 9 true).run Tryz.prog w = .ok (.tuple #[.string ⟨#[97]⟩, .bool true]) w := fun _ => by kernel_rfl
  go_enter Tryz.func27, Tryz.ntmps27
  go_wp2_with fail
  go_returns
  exact ⟨rfl, by repeat (first | assumption | (with_reducible exact Below.refl _ _) | exact balloc _ _ | exact balloc2 _ _ _ | refine btrans ?_ (by assumption) | refine btrans ?_ (balloc _ _))⟩
theorem less12 (W : World) : Calls Tryz.prog 28 #[.float .f64 4607182418800017408, .float .f64 4611686018427387904] W fun e w' => e = .returned (.bool true) ∧ W = w' :=
  (Ord.less_any _ _ W).mono fun _ _ ⟨h1, h2⟩ => ⟨by rw [h1, show Flt.lt 4607182418800017408 4611686018427387904 = true by decide +kernel], h2⟩
set_option maxRecDepth 20000 in
set_option maxHeartbeats 4000000 in
theorem fit02_any (w : World) (hT : Tab.Tabs w) (hP : Pf.PfT w) : Calls Tryz.prog 9 #[] w fun e w' => e = .returned (.bool true) ∧ Below w.heap.size w w' := by
  have q3 : (FloatKind.f64.format.order F3 F3 == some .eq) = true := by decide +kernel
  have HT := Lib.hid hT; have HP := Lib.hid hP; clear hT hP
  go_enter Tryz.func9, Tryz.ntmps9
  go_wp2_with (first
    | (go_at_call 10; refine (read3_any _ HT.out HP.out).mono ?_; rintro e w1 ⟨rfl, hb1⟩)
    | (go_at_call 27; refine (of_a _).mono ?_; rintro e w2 ⟨rfl, hb2⟩; obtain ⟨hc2, hf2⟩ := bcell hb2; have hs2 := size1 hb2)
    | (go_at_call 13; refine (printa _ (HT.out.below (by repeat (first | assumption | (with_reducible exact Below.refl _ _) | exact balloc _ _ | exact balloc2 _ _ _ | refine btrans ?_ (by assumption) | refine btrans ?_ (balloc _ _))) (Nat.le_refl _))).mono ?_; rintro e w3 ⟨rfl, hb3⟩)
    | (go_at_call 28; refine (less12 _).mono ?_; rintro e w' ⟨rfl, rfl⟩) | fail)
  go_ret
  exact ⟨rfl, by repeat (first | assumption | (with_reducible exact Below.refl _ _) | exact balloc _ _ | exact balloc2 _ _ _ | refine btrans ?_ (by assumption) | refine btrans ?_ (balloc _ _))⟩
end Go.Proofs.YtnccpddjdgndcaaGreatDoor.Val
end

section
/- THE WALK OF value.Read AT A TEXT BETWEEN QUOTES that needs no escapes. -/
namespace Go.Proofs.YtnccpddjdgndcaaGreatDoor.Val
open Go.RowKit Flt
attribute [local go_sem] run_store_flt
end Go.Proofs.YtnccpddjdgndcaaGreatDoor.Val
end

section
/- value.Read AT A TEXT AS Quote WRITES IT. -/
namespace Go.Proofs.YtnccpddjdgndcaaGreatDoor.Val
open Go.RowKit Flt
attribute [local go_sem] run_store_flt
end Go.Proofs.YtnccpddjdgndcaaGreatDoor.Val
end

section
/- ParseFloat GIVES BACK ANY NUMBER's TEXT; value.Read AT A NUMBER's TEXT. -/
namespace Go.Proofs.YtnccpddjdgndcaaGreatDoor.Pf
open Go.RowKit Go.Proofs.YtnccpddjdgndcaaGreatDoor.Fmt Go.Proofs.YtnccpddjdgndcaaGreatDoor.Nt Ieee
end Go.Proofs.YtnccpddjdgndcaaGreatDoor.Pf
namespace Go.Proofs.YtnccpddjdgndcaaGreatDoor.Val
open Go.RowKit Flt
attribute [local go_sem] run_store_flt
theorem idx0 (c : UInt8) (r : List UInt8) (h : 0 < (⟨(c :: r).toArray⟩ : ByteArray).size) : ((⟨(c :: r).toArray⟩ : ByteArray)[0]'h) = c := rfl
attribute [local go_sem] idx0
end Go.Proofs.YtnccpddjdgndcaaGreatDoor.Val
end

section
/- value.Read AT A WHOLE NUMBER's TEXT, AND AT YES AND NO. -/
namespace Go.Proofs.YtnccpddjdgndcaaGreatDoor.Val
open Go.RowKit Flt
attribute [local go_sem] run_store_flt idx0
set_option maxRecDepth 20000 in
set_option maxHeartbeats 4000000 in
theorem read_bool (b : Bool) (w : World) (hT : Tab.Tabs w) :
    Calls Tryz.prog 10 #[.string ⟨(if b then yesT else noT).toArray⟩] w fun e w' => e = .returned (.tuple #[val 3 0 0 [] b, .bool true]) ∧ Below w.heap.size w w' := by
  have hpr := fun W hW => vprint_any 3 0 0 [] b W (by decide) (by decide) (by decide) (by decide) hW
  have hri := fun W => vright_any 3 0 0 [] b W (by decide)
  rw [show vRight ⟨3, 0, 0, [], b⟩ = true from rfl] at hri
  rw [show vT ⟨3, 0, 0, [], b⟩ = (if b then yesT else noT) from rfl] at hpr
  have HPR := Lib.hid hpr; have HR := Lib.hid hri; have HT := Lib.hid hT
  clear hpr hri hT
  have hq : (noT == [121, 101, 115]) = false := by decide
  cases b
  · skip
    go_enter Tryz.func10, Tryz.ntmps10
    go_wp2_with (first
      | (go_at_call 12; refine (HR.out _).mono ?_; rintro e w3 ⟨rfl, hb3⟩; obtain ⟨c0, c1, f0, f1, hz1, hl1⟩ := two_box hb3)
      | (go_at_call 13; refine (HPR.out _ (HT.out.below hl1 (Nat.le_refl _))).mono ?_; rintro e w4 ⟨rfl, hb4⟩; obtain ⟨hc4, hf4⟩ := bcell hb4; have hs4' : w.heap.size < w3.heap.size := by omega) | fail)
    obtain ⟨r0, r1, r2, r3, r4, hb5⟩ := set5_at w4 w.heap.size (.int .i64 3) (.int .i64 0) (.float .f64 0) (.string ⟨#[]⟩) (.bool false) (fun j hj => by
      rw [hc4 _ _ (by omega), c0, Array.getElem?_eq_getElem (by exact hj)]; rfl)
    generalize World.setCell _ _ _ = W5 at *
    refine bodyPost_ret (v := .tuple #[val 3 0 0 [] false, .bool true]) (by simp [results, Tryz.results10, go_sem, r0, r1, r2, r3, r4]; try rfl) rfl ?_
    exact ⟨rfl, (btrans hl1 hb4).trans hb5⟩
  · skip
    go_enter Tryz.func10, Tryz.ntmps10
    go_wp2_with (first
      | (go_at_call 12; refine (HR.out _).mono ?_; rintro e w3 ⟨rfl, hb3⟩; obtain ⟨c0, c1, f0, f1, hz1, hl1⟩ := two_box hb3)
      | (go_at_call 13; refine (HPR.out _ (HT.out.below hl1 (Nat.le_refl _))).mono ?_; rintro e w4 ⟨rfl, hb4⟩; obtain ⟨hc4, hf4⟩ := bcell hb4; have hs4' : w.heap.size < w3.heap.size := by omega) | fail)
    obtain ⟨r0, r1, r2, r3, r4, hb5⟩ := set5_at w4 w.heap.size (.int .i64 3) (.int .i64 0) (.float .f64 0) (.string ⟨#[]⟩) (.bool true) (fun j hj => by
      rw [hc4 _ _ (by omega), c0, Array.getElem?_eq_getElem (by exact hj)]; rfl)
    generalize World.setCell _ _ _ = W5 at *
    refine bodyPost_ret (v := .tuple #[val 3 0 0 [] true, .bool true]) (by simp [results, Tryz.results10, go_sem, r0, r1, r2, r3, r4]; try rfl) rfl ?_
    exact ⟨rfl, (btrans hl1 hb4).trans hb5⟩
end Go.Proofs.YtnccpddjdgndcaaGreatDoor.Val
end

section
/- THE WALKS OF value.Canon and cond.Canon. -/
namespace Go.Proofs.YtnccpddjdgndcaaGreatDoor.Val
open Go.RowKit Flt
attribute [local go_sem] run_store_flt
def canonV (v : V) : V := if v.kind == 0 then ⟨0, v.int, 0, [], false⟩ else if v.kind == 1 then ⟨1, 0, Ord.canon v.num, [], false⟩ else if v.kind == 2 then ⟨2, 0, 0, v.text, false⟩ else if v.kind == 3 then ⟨3, 0, 0, [], v.yes⟩ else ⟨0, 0, 0, [], false⟩
/-- a value's own form -/
abbrev vv (v : V) : Value := val v.kind v.int v.num v.text v.yes
abbrev cc (c : C) : Value := cond c.name c.op c.val.kind c.val.int c.val.num c.val.text c.val.yes
end Go.Proofs.YtnccpddjdgndcaaGreatDoor.Val
end

section
/- THE WALKS OF package order: Key, Same. -/
namespace Go.Proofs.YtnccpddjdgndcaaGreatDoor.Ord
open Go.RowKit Flt
attribute [local go_sem] ford_eq ford_lt ford_gt
theorem bits_call (b : Nat) (w : World) : (callFunc 86 #[.float .f64 b]).run Tryz.prog w = .ok (.value (.int .u64 b)) w :=
  run_callFunc_extern (e := Extern.MathFloatBits.float64bits) Tryz.func86 (by kernel_rfl) (by kernel_rfl) (by kernel_rfl) (by kernel_rfl) _ w
theorem umax_xor (b : Nat) (hb : b < 18446744073709551616) : bits .xor .u64 IntKind.u64.max (b : Int) = ((most - b : Nat) : Int) := by
  have h := u64_xor 18446744073709551615 (b : Int) (by decide) (by decide) (by omega) (by omega)
  have e : IntKind.u64.max = 18446744073709551615 := by decide
  rw [e, h]
  have e2 : (18446744073709551615 : Int).toNat = most := by decide
  rw [e2, Int.toNat_natCast, xor_most hb]
theorem top_or (b : Nat) (hb : b < 18446744073709551616) : bits .or .u64 (b : Int) 9223372036854775808 = ((b ||| top : Nat) : Int) := by
  have h := u64_or (b : Int) 9223372036854775808 (by omega) (by omega) (by decide) (by decide)
  rw [h, Int.toNat_natCast]; rfl
theorem ret_u64 {a b : Int} (h : a = b) : Ending.returned (.int .u64 a) = .returned (.int .u64 b) := by rw [h]
set_option maxHeartbeats 400000 in
theorem key_any (b : Nat) (hb : b < 18446744073709551616) (w : World) :
    Calls Tryz.prog 52 #[.float .f64 b] w fun e w' => e = .returned (.int .u64 (key b)) ∧ w = w' := by
  have hc := bits_call
  have h1 := ford_ne_self (canon b)
  rw [canon_nan] at h1
  cases hn : nan b with
  | true =>
    rw [key_nan hn]
    rw [hn] at h1; clear hn hb
    go_enter Tryz.func52, Tryz.ntmps52
    go_wp2_with (go_at_call 32; refine (canon_any _ _).mono ?_; rintro e w' ⟨rfl, rfl⟩)
    go_ret
    exact ⟨rfl, rfl⟩
  | false =>
    rw [hn] at h1
    have hk := key_of_canon b hb hn
    have hl := canon_lt b hb
    clear hn hb
    by_cases h : canon b / 9223372036854775808 = 1
    · rw [if_pos h] at hk
      have HK := Lib.hid hk; clear hk
      have h' : ((canon b : Int) / 9223372036854775808 == 1) = true := by rw [beq_iff_eq]; omega
      clear h
      go_enter Tryz.func52, Tryz.ntmps52
      go_wp2_with (go_at_call 32; refine (canon_any _ _).mono ?_; rintro e w' ⟨rfl, rfl⟩)
      go_ret
      exact ⟨ret_u64 (by rw [HK.out, umax_xor _ hl]), rfl⟩
    · rw [if_neg h] at hk
      have HK := Lib.hid hk; clear hk
      have h' : ((canon b : Int) / 9223372036854775808 == 1) = false := by rw [beq_eq_false_iff_ne]; omega
      clear h
      go_enter Tryz.func52, Tryz.ntmps52
      go_wp2_with (go_at_call 32; refine (canon_any _ _).mono ?_; rintro e w' ⟨rfl, rfl⟩)
      go_ret
      exact ⟨ret_u64 (by rw [HK.out, top_or _ hl]), rfl⟩
def same (a b : Nat) : Bool := key a == key b
theorem beq_cast (a b : Nat) : ((a : Int) == (b : Int)) = (a == b) := by
  rw [Bool.eq_iff_iff]; simp; omega
set_option maxHeartbeats 400000 in
theorem same_any (a b : Nat) (ha : a < 18446744073709551616) (hb : b < 18446744073709551616) (w : World) :
    Calls Tryz.prog 34 #[.float .f64 a, .float .f64 b] w fun e w' => e = .returned (.bool (same a b)) ∧ w = w' := by
  go_enter Tryz.func34, Tryz.ntmps34
  go_wp2_with (go_at_call 52; refine (key_any _ (by assumption) _).mono ?_; rintro e w' ⟨rfl, rfl⟩)
  go_ret
  exact ⟨ret_bool (beq_cast _ _), rfl⟩
end Go.Proofs.YtnccpddjdgndcaaGreatDoor.Ord
end

section
/- THE WALKS OF value.Same, cond.below, cond.above. -/
namespace Go.Proofs.YtnccpddjdgndcaaGreatDoor.Val
open Go.RowKit Flt
def sameB (a b : V) : Bool := a.kind == b.kind && (if a.kind == 0 then a.int == b.int else if a.kind == 1 then Ord.same a.num b.num else if a.kind == 2 then a.text == b.text else a.yes == b.yes)
set_option maxHeartbeats 400000 in
theorem same_any (k1 n1 : Int) (x1 : Nat) (t1 : List UInt8) (y1 : Bool) (k2 n2 : Int) (x2 : Nat) (t2 : List UInt8) (y2 : Bool) (w : World) (h1 : x1 < 18446744073709551616) (h2 : x2 < 18446744073709551616) :
    Calls Tryz.prog 11 #[val k1 n1 x1 t1 y1, val k2 n2 x2 t2 y2] w fun e w' => e = .returned (.bool (sameB ⟨k1, n1, x1, t1, y1⟩ ⟨k2, n2, x2, t2, y2⟩)) ∧ Below w.heap.size w w' := by
  have hr : sameB ⟨k1, n1, x1, t1, y1⟩ ⟨k2, n2, x2, t2, y2⟩ = (k1 == k2 && (if k1 == 0 then n1 == n2 else if k1 == 1 then Ord.same x1 x2 else if k1 == 2 then t1 == t2 else y1 == y2)) := rfl
  have ho (w : World) := Ord.same_any x1 x2 h1 h2 w
  generalize Ord.same x1 x2 = sb at *
  have HR := Lib.hid hr; have HO := Lib.hid ho; clear hr ho h1 h2
  cases hk : (k1 == k2)
  · have hk' : (k1 != k2) = true := by rw [bne, hk]; rfl
    go_enter Tryz.func11, Tryz.ntmps11
    go_wp2
    go_ret
    exact ⟨ret_bool (by rw [HR.out, hk]; rfl), balloc2 _ _ _⟩
  have hk' : (k1 != k2) = false := by rw [bne, hk]; rfl
  cases q0 : (k1 == 0)
  · cases q1 : (k1 == 1)
    · cases q2 : (k1 == 2)
      all_goals
        go_enter Tryz.func11, Tryz.ntmps11
        go_wp2
        go_ret
        exact ⟨ret_bool (by rw [HR.out, hk, q0, q1, q2]; rfl), balloc2 _ _ _⟩
    · go_enter Tryz.func11, Tryz.ntmps11
      go_wp2_with (go_at_call 34; refine (HO.out _).mono ?_; rintro e w' ⟨rfl, rfl⟩)
      go_ret
      exact ⟨ret_bool (by rw [HR.out, hk, q0, q1]; rfl), balloc2 _ _ _⟩
  · go_enter Tryz.func11, Tryz.ntmps11
    go_wp2
    go_ret
    exact ⟨ret_bool (by rw [HR.out, hk, q0]; rfl), balloc2 _ _ _⟩
end Go.Proofs.YtnccpddjdgndcaaGreatDoor.Val
end

section
/- VALUES THAT ARE NOT THE SAME HAVE TEXTS THAT ARE NOT, whatever stands behind; those that are the same have one. No walk. -/
namespace Go.Proofs.YtnccpddjdgndcaaGreatDoor.Val
open Go.RowKit Flt
theorem nan_iff (b : Nat) : nan b = true ↔ 9218868437227405312 < b % 9223372036854775808 := by
  unfold nan rung inf
  rw [decide_eq_true_eq]
theorem canon_bits (x : Nat) (hx : x < 18446744073709551616) : Ord.canon x < 18446744073709551616 ∧
    ((Ord.canon x = 9221120237041090561) ∨ (Fmt.bexp (Ord.canon x) ≤ 2046) ∨ (Fmt.bexp (Ord.canon x) = 2047 ∧ Fmt.bman (Ord.canon x) = 0)) := by
  refine ⟨canon_lt x hx, ?_⟩
  have na := nan_iff x
  unfold Ord.canon Ord.nan0
  cases h1 : nan x
  · rw [h1] at na
    have : ¬ 9218868437227405312 < x % 9223372036854775808 := fun h => by have := na.2 h; cases this
    simp only [Bool.false_eq_true, if_false]
    split
    · right; left; decide
    · right
      unfold Fmt.bexp Fmt.bman
      omega
  · left; rfl
end Go.Proofs.YtnccpddjdgndcaaGreatDoor.Val
end

section
/- value.Read AT THE TEXT OF ANY VALUE IN ITS OWN FORM. -/
namespace Go.Proofs.YtnccpddjdgndcaaGreatDoor.Val
open Go.RowKit Flt
theorem canon2_two (x : Nat) : Ord.canon (Ord.canon x) = Ord.canon x := by
  unfold Ord.canon
  cases h : nan x
  · cases h2 : Ord.zero x
    · simp only [h, h2, Bool.false_eq_true, if_false]
    · simp only [Bool.false_eq_true, if_false, if_true]
      rw [if_neg (by decide), if_pos (by decide)]
  · simp only [if_true]
    rw [if_pos (by decide)]
/-- what Read answers at the text of a value in its own form -/
def back (c : V) : Value := .tuple #[if vRight c then vv c else val 0 0 0 [] false, .bool (vRight c)]
theorem one_box {w w1 : World} {A : Array Value} {T : TypeId} (hb : Below (w.alloc (.cells A T)).heap.size (w.alloc (.cells A T)) w1) :
    (∀ o, w1.cell? ⟨w.heap.size, o, none⟩ = A[o]?) ∧ (∀ o, w1.frozen? ⟨w.heap.size, o, none⟩ = false) ∧ w.heap.size < w1.heap.size ∧ Below w.heap.size w w1 := by
  have hz := size1 hb
  have c : ∀ b o, b < w.heap.size + 1 → w1.cell? ⟨b, o, none⟩ = (w.alloc (.cells A T)).cell? ⟨b, o, none⟩ := fun b o h => hb.cell (p := ⟨b, o, none⟩) (by simp; omega)
  have f : ∀ b o, b < w.heap.size + 1 → w1.frozen? ⟨b, o, none⟩ = (w.alloc (.cells A T)).frozen? ⟨b, o, none⟩ := fun b o h => hb.frozen (p := ⟨b, o, none⟩) (by simp; omega)
  exact ⟨fun o => (c _ o (by omega)).trans (by simp), fun o => (f _ o (by omega)).trans (by simp), hz, btrans (balloc _ _) hb⟩
end Go.Proofs.YtnccpddjdgndcaaGreatDoor.Val
end

section
/- THE WALK OF value.Read AT ANY TEXT. -/
namespace Go.Proofs.YtnccpddjdgndcaaGreatDoor.Val
open Go.RowKit Flt
attribute [local go_sem] run_store_flt
/-- what Read answers at any text -/
def RdA (s : ByteArray) (e : Ending) : Prop := e = .returned (.tuple #[val 0 0 0 [] false, .bool false]) ∨ ∃ v : V, e = .returned (.tuple #[vv v, .bool true]) ∧ vRight v = true ∧ (⟨(vT v).toArray⟩ : ByteArray) = s ∧ canonV v = v ∧ v.num < 18446744073709551616 ∧ -9223372036854775808 ≤ v.int ∧ v.int ≤ 9223372036854775807
theorem zi : (-9223372036854775808 : Int) ≤ 0 ∧ (0 : Int) ≤ 9223372036854775807 := by decide
theorem zn : (0 : Nat) < 18446744073709551616 := by decide
theorem ba_eq {P s : ByteArray} (h : (!P.toList == s.toList) = false) : P = s := by
  have h1 : P.toList = s.toList := by simpa using h
  rw [Lib.toList_data, Lib.toList_data] at h1
  exact ByteArray.ext (Array.toList_inj.1 h1)
set_option maxRecDepth 20000 in
set_option maxHeartbeats 4000000 in

theorem read_rest (s : ByteArray) (hs : s.size ≤ 9000) (w : World) (n1 : ¬ s.toList = [121, 101, 115]) (n2 : (s.toList == [110, 111]) = false) (h3 : s.toList.isEmpty = true ∨ (s.toList.isEmpty = false ∧ ∃ h : 0 < s.size, ((((s[0]'h).toNat : Nat) : Int) == 34) = false)) (hT : Tab.Tabs w) (B R o c : Nat) (hA : Pf.AW w B R o c) (hE : Pf.EvT w) :
    Calls Tryz.prog 10 #[.string s] w fun e w' => RdA s e ∧ Below w.heap.size w w' := by
  have hcan := fun W => Ira.cany_any s (by omega) W
  have HT := Lib.hid hT; have HA := Lib.hid hA; have HE := Lib.hid hE; have HC := Lib.hid hcan
  clear hT hA hE hcan
  rcases h3 with e1 | ⟨e1, e2, e3⟩
  all_goals
    go_enter Tryz.func10, Tryz.ntmps10
    go_wp2_with (first
      | (go_at_call 30; refine (HC.out _).mono ?_; rintro e w1 ⟨⟨mk, rfl⟩, hb1⟩; have HB1 := Lib.hid hb1; obtain ⟨c0, c1, f0, f1, hz1, hl1⟩ := two_box hb1; clear hb1) | fail)
    · go_upto_region 15 with (first
        | (go_at_call 31; refine (Pf.parse_any s (by omega) _ B R o c (HA.out.below hl1) (HE.out.below hl1)).mono ?_; rintro e w2 ⟨⟨y, v, rfl, hy, hv⟩, hb2⟩; have HB2 := Lib.hid (btrans HB1.out hb2); clear c0 c1 f0 f1 hz1 hl1 hb2; obtain ⟨c0, c1, f0, f1, hz1, hl1⟩ := two_box HB2.out) | fail)
      rcases hv with rfl | ⟨te, pe, rfl⟩
      · have hcan := fun W => Ord.canon_any y W
        have hx := (canon_bits y hy).1
        have hcx := canon2_two y
        generalize Ord.canon y = x at *
        have hpr := fun W hW => vprint_any 1 0 x [] false W hx (by decide) (by decide) (by decide) hW
        have hri := fun W => vright_any 1 0 x [] false W (by decide)
        rw [show vRight ⟨1, 0, x, [], false⟩ = true from rfl] at hri
        obtain ⟨P, hP⟩ : ∃ P : ByteArray, (⟨(vT ⟨1, 0, x, [], false⟩).toArray⟩ : ByteArray) = P := ⟨_, rfl⟩
        rw [hP] at hpr
        have HCA := Lib.hid hcan; have HCX := Lib.hid hcx; have HPR := Lib.hid hpr; have HR := Lib.hid hri; have HPP := Lib.hid hP
        clear hcan hpr hri hP hcx
        go_wp2_with (first | (go_at_call 32; refine (HCA.out _).mono ?_; rintro e w' ⟨rfl, rfl⟩) | fail)
        obtain ⟨W2, hW2, d0, ⟨e0, e1, e2, e3, e4⟩, g0, hz2, hl2⟩ := two_set HB2.out rfl (.int .i64 1) (.int .i64 0) (.float .f64 x) (.string ⟨#[]⟩) (.bool false)
        rw [← hW2]
        clear c0 c1 f0 f1 hz1 hl1 HB1 HB2 hW2
        have HB := Lib.hid hl2; clear hl2
        go_wp2_with (first
          | (go_at_call 12; refine (HR.out _).mono ?_; rintro e w3 ⟨rfl, hb3⟩; obtain ⟨hc3, hf3⟩ := bcell hb3; have hs3 := Nat.lt_of_lt_of_le hz2 hb3.size; have hs3' : w.heap.size < W2.heap.size := by omega)
          | (go_at_call 13; refine (HPR.out _ (HT.out.below (btrans HB.out hb3) (Nat.le_refl _))).mono ?_; rintro e w4 ⟨rfl, hb4⟩; obtain ⟨hc4, hf4⟩ := bcell hb4; have hs4' : w.heap.size < w3.heap.size := by omega) | fail)
        · obtain ⟨r0, r1, r2, r3, r4, hb5⟩ := set5_at w4 w.heap.size (.int .i64 0) (.int .i64 0) (.float .f64 0) (.string ⟨#[]⟩) (.bool false) (fun j hj => by
            rw [hc4 _ _ (by omega), hc3 _ _ (by omega), d0, Array.getElem?_eq_getElem (by exact hj)]; rfl)
          generalize World.setCell _ _ _ = W5 at *
          refine bodyPost_ret (v := .tuple #[val 0 0 0 [] false, .bool false]) (by simp [results, Tryz.results10, go_sem, r0, r1, r2, r3, r4]; try rfl) rfl ?_
          exact ⟨.inl rfl, (btrans (btrans HB.out hb3) hb4).trans hb5⟩
        · have heq := ba_eq ‹(!P.toList == s.toList) = false›
          obtain ⟨r0, r1, r2, r3, r4, hb5⟩ := set5_at w4 w.heap.size (.int .i64 1) (.int .i64 0) (.float .f64 x) (.string ⟨#[]⟩) (.bool false) (fun j hj => by
            rw [hc4 _ _ (by omega), hc3 _ _ (by omega), d0, Array.getElem?_eq_getElem (by exact hj)]; rfl)
          generalize World.setCell _ _ _ = W5 at *
          refine bodyPost_ret (v := .tuple #[val 1 0 x [] false, .bool true]) (by simp [results, Tryz.results10, go_sem, r0, r1, r2, r3, r4]; try rfl) rfl ?_
          exact ⟨.inr ⟨⟨1, 0, x, [], false⟩, rfl, rfl, HPP.out.trans heq, by show V.mk 1 0 (Ord.canon x) [] false = _; rw [HCX.out], hx, zi.1, zi.2⟩, (btrans (btrans HB.out hb3) hb4).trans hb5⟩
      · obtain ⟨r0, r1, r2, r3, r4, hb5⟩ := set5_at w2 w.heap.size (.int .i64 0) (.int .i64 0) (.float .f64 0) (.string ⟨#[]⟩) (.bool false) (fun j hj => by
          rw [c0, Array.getElem?_eq_getElem (by exact hj)]; rfl)
        go_wp2_with fail
        generalize World.setCell _ _ _ = W5 at *
        refine bodyPost_ret (v := .tuple #[val 0 0 0 [] false, .bool false]) (by simp [results, Tryz.results10, go_sem, r0, r1, r2, r3, r4]; try rfl) rfl ?_
        exact ⟨.inl rfl, hl1.trans hb5⟩
    · go_upto_region 3 with (first
        | (go_at_call 33; refine (Pf.pint_any s (by omega) _ (HE.out.below hl1)).mono ?_; rintro e w2 ⟨⟨x, v, rfl, hy0, hy1, hv⟩, hb2⟩; have HB2 := Lib.hid (btrans HB1.out hb2); clear c0 c1 f0 f1 hz1 hl1 hb2; obtain ⟨c0, c1, f0, f1, hz1, hl1⟩ := two_box HB2.out) | fail)
      rcases hv with rfl | ⟨te, pe, rfl⟩
      · have hpr := fun W hW => vprint_any 0 x 0 [] false W (by decide) hy0 hy1 (by decide) hW
        have hri := fun W => vright_any 0 x 0 [] false W (by decide)
        rw [show vRight ⟨0, x, 0, [], false⟩ = true from rfl] at hri
        obtain ⟨P, hP⟩ : ∃ P : ByteArray, (⟨(vT ⟨0, x, 0, [], false⟩).toArray⟩ : ByteArray) = P := ⟨_, rfl⟩
        rw [hP] at hpr
        have HPR := Lib.hid hpr; have HR := Lib.hid hri; have HPP := Lib.hid hP
        clear hpr hri hP
        go_wp2_with fail
        obtain ⟨W2, hW2, d0, ⟨e0, e1, e2, e3, e4⟩, g0, hz2, hl2⟩ := two_set HB2.out rfl (.int .i64 0) (.int .i64 x) (.float .f64 0) (.string ⟨#[]⟩) (.bool false)
        rw [← hW2]
        clear c0 c1 f0 f1 hz1 hl1 HB1 HB2 hW2
        have HB := Lib.hid hl2; clear hl2
        go_wp2_with (first
          | (go_at_call 12; refine (HR.out _).mono ?_; rintro e w3 ⟨rfl, hb3⟩; obtain ⟨hc3, hf3⟩ := bcell hb3; have hs3 := Nat.lt_of_lt_of_le hz2 hb3.size; have hs3' : w.heap.size < W2.heap.size := by omega)
          | (go_at_call 13; refine (HPR.out _ (HT.out.below (btrans HB.out hb3) (Nat.le_refl _))).mono ?_; rintro e w4 ⟨rfl, hb4⟩; obtain ⟨hc4, hf4⟩ := bcell hb4; have hs4' : w.heap.size < w3.heap.size := by omega) | fail)
        · obtain ⟨r0, r1, r2, r3, r4, hb5⟩ := set5_at w4 w.heap.size (.int .i64 0) (.int .i64 0) (.float .f64 0) (.string ⟨#[]⟩) (.bool false) (fun j hj => by
            rw [hc4 _ _ (by omega), hc3 _ _ (by omega), d0, Array.getElem?_eq_getElem (by exact hj)]; rfl)
          generalize World.setCell _ _ _ = W5 at *
          refine bodyPost_ret (v := .tuple #[val 0 0 0 [] false, .bool false]) (by simp [results, Tryz.results10, go_sem, r0, r1, r2, r3, r4]; try rfl) rfl ?_
          exact ⟨.inl rfl, (btrans (btrans HB.out hb3) hb4).trans hb5⟩
        · have heq := ba_eq ‹(!P.toList == s.toList) = false›
          obtain ⟨r0, r1, r2, r3, r4, hb5⟩ := set5_at w4 w.heap.size (.int .i64 0) (.int .i64 x) (.float .f64 0) (.string ⟨#[]⟩) (.bool false) (fun j hj => by
            rw [hc4 _ _ (by omega), hc3 _ _ (by omega), d0, Array.getElem?_eq_getElem (by exact hj)]; rfl)
          generalize World.setCell _ _ _ = W5 at *
          refine bodyPost_ret (v := .tuple #[val 0 x 0 [] false, .bool true]) (by simp [results, Tryz.results10, go_sem, r0, r1, r2, r3, r4]; try rfl) rfl ?_
          exact ⟨.inr ⟨⟨0, x, 0, [], false⟩, rfl, rfl, HPP.out.trans heq, rfl, zn, hy0, hy1⟩, (btrans (btrans HB.out hb3) hb4).trans hb5⟩
      · obtain ⟨r0, r1, r2, r3, r4, hb5⟩ := set5_at w2 w.heap.size (.int .i64 0) (.int .i64 0) (.float .f64 0) (.string ⟨#[]⟩) (.bool false) (fun j hj => by
          rw [c0, Array.getElem?_eq_getElem (by exact hj)]; rfl)
        go_wp2_with fail
        generalize World.setCell _ _ _ = W5 at *
        refine bodyPost_ret (v := .tuple #[val 0 0 0 [] false, .bool false]) (by simp [results, Tryz.results10, go_sem, r0, r1, r2, r3, r4]; try rfl) rfl ?_
        exact ⟨.inl rfl, hl1.trans hb5⟩
end Go.Proofs.YtnccpddjdgndcaaGreatDoor.Val
end

section
/- THE WALK OF value.Read AT A TEXT THAT A QUOTE BEGINS. -/
namespace Go.Proofs.YtnccpddjdgndcaaGreatDoor.Val
open Go.RowKit Flt
attribute [local go_sem] run_store_flt
theorem ba_eq2 {P : ByteArray} {l : List UInt8} (h : (!P.toList == l) = false) : P = ⟨l.toArray⟩ := by
  have h1 : P.toList = l := by simpa using h
  rw [Lib.toList_data] at h1
  exact ByteArray.ext (Array.toList_inj.1 (by rw [h1]))
theorem uqGo_len : ∀ (f : Nat) (l out o t : List UInt8), Unq.uqGo f l out = some (o, t) → o.length ≤ out.length + 4 * f
  | 0, l, out, o, t, h => by rw [Unq.uqGo] at h; exact absurd h (by simp)
  | f + 1, [], out, o, t, h => by rw [Unq.uqGo] at h; exact absurd h (by simp)
  | f + 1, c :: r, out, o, t, h => by
    rw [Unq.uqGo] at h
    · split at h
      · cases h; omega
      · split at h
        · exact absurd h (by simp)
        · split at h
          · exact absurd h (by simp)
          · rename_i v mb t2 _
            have h1 := uqGo_len f _ _ o t h
            rw [List.length_append] at h1
            have := Unq.app_len v mb
            omega
theorem unqP_len (r a : List UInt8) (h : Unq.unqP r = some a) : a.length ≤ 4 * (r.length + 1) := by
  unfold Unq.unqP at h
  split at h
  · exact absurd h (by simp)
  · simp only at h
    split at h
    · split at h
      · cases h; rw [List.length_take]; omega
      · exact absurd h (by simp)
    · split at h
      · rename_i o hq
        cases h
        have := uqGo_len _ _ _ _ _ hq
        simp at this; omega
      · exact absurd h (by simp)
set_option maxRecDepth 20000 in
set_option maxHeartbeats 4000000 in
theorem read_quot (r : List UInt8) (hs : r.length ≤ 8000) (w : World) (hT : Tab.Tabs w) (hE : Unq.ErrS w) :
    Calls Tryz.prog 10 #[.string ⟨(34 :: r).toArray⟩] w fun e w' => RdA ⟨(34 :: r).toArray⟩ e ∧ Below w.heap.size w w' := by
  have hu := fun W hE hT => Unq.Unquote_any r (by omega) W hE hT
  have hc := fun w1 (h : Below w.heap.size w w1) => Unq.err_below hE h
  obtain ⟨s, hss⟩ : ∃ s : ByteArray, (⟨(34 :: r).toArray⟩ : ByteArray) = s := ⟨_, rfl⟩
  have hlen := unqP_len r
  cases hq : Unq.unqP r with
  | none =>
    rw [hq] at hu
    have HU := Lib.hid hu; have HT := Lib.hid hT; have HC := Lib.hid hc
    clear hu hT hE hc hlen hss
    go_enter Tryz.func10, Tryz.ntmps10
    go_wp2_with (first
      | (go_at_call 29; refine (HU.out _ (HC.out _ (by repeat (first | assumption | (with_reducible exact Below.refl _ _) | exact balloc _ _ | exact balloc2 _ _ _ | refine btrans ?_ (by assumption) | refine btrans ?_ (balloc _ _)))) (HT.out.below (by repeat (first | assumption | (with_reducible exact Below.refl _ _) | exact balloc _ _ | exact balloc2 _ _ _ | refine btrans ?_ (by assumption) | refine btrans ?_ (balloc _ _))) (Nat.le_refl _))).mono ?_; rintro e w1 ⟨⟨te, pe, rfl⟩, hb1⟩; have HB1 := Lib.hid hb1; obtain ⟨c0, c1, f0, f1, hz1, hl1⟩ := two_box hb1; clear hb1) | fail)
    obtain ⟨r0, r1, r2, r3, r4, hb5⟩ := set5_at w1 w.heap.size (.int .i64 0) (.int .i64 0) (.float .f64 0) (.string ⟨#[]⟩) (.bool false) (fun j hj => by
      rw [c0, Array.getElem?_eq_getElem (by exact hj)]; rfl)
    generalize World.setCell _ _ _ = W5 at *
    refine bodyPost_ret (v := .tuple #[val 0 0 0 [] false, .bool false]) (by simp [results, Tryz.results10, go_sem, r0, r1, r2, r3, r4]; try rfl) rfl ?_
    exact ⟨.inl rfl, hl1.trans hb5⟩
  | some a =>
    have hal := hlen a hq
    rw [hq] at hu
    have hp := fun W hW => vprint_any 2 0 0 a false W (by decide) (by decide) (by decide) (by omega) hW
    have hr := fun W => vright_any 2 0 0 a false W (by omega)
    obtain ⟨P, hP⟩ : ∃ P : ByteArray, (⟨(vT ⟨2, 0, 0, a, false⟩).toArray⟩ : ByteArray) = P := ⟨_, rfl⟩
    rw [hP] at hp
    obtain ⟨R, hR⟩ : ∃ R : Bool, vRight ⟨2, 0, 0, a, false⟩ = R := ⟨_, rfl⟩
    rw [hR] at hr
    have HU := Lib.hid hu; have HT := Lib.hid hT; have HC := Lib.hid hc; have HPR := Lib.hid hp; have HR := Lib.hid hr; have HPP := Lib.hid hP; have HRR := Lib.hid hR
    clear hu hT hE hc hlen hss hp hr hP hR
    go_enter Tryz.func10, Tryz.ntmps10
    go_wp2_with (first
      | (go_at_call 29; refine (HU.out _ (HC.out _ (by repeat (first | assumption | (with_reducible exact Below.refl _ _) | exact balloc _ _ | exact balloc2 _ _ _ | refine btrans ?_ (by assumption) | refine btrans ?_ (balloc _ _)))) (HT.out.below (by repeat (first | assumption | (with_reducible exact Below.refl _ _) | exact balloc _ _ | exact balloc2 _ _ _ | refine btrans ?_ (by assumption) | refine btrans ?_ (balloc _ _))) (Nat.le_refl _))).mono ?_; rintro e w1 ⟨rfl, hb1⟩; have HB1 := Lib.hid hb1; obtain ⟨c0, c1, f0, f1, hz1, hl1⟩ := two_box hb1; clear hb1) | fail)
    obtain ⟨W2, hW2, d0, ⟨e0, e1, e2, e3, e4⟩, g0, hz2, hl2⟩ := two_set HB1.out rfl (.int .i64 2) (.int .i64 0) (.float .f64 0) (.string ⟨a.toArray⟩) (.bool false)
    rw [← hW2]
    clear c0 c1 f0 f1 hz1 hl1 HB1 hW2
    have HB := Lib.hid hl2; clear hl2
    go_wp2_with (first
      | (go_at_call 12; refine (HR.out _).mono ?_; rintro e w3 ⟨rfl, hb3⟩; obtain ⟨hc3, hf3⟩ := bcell hb3; have hs3 := Nat.lt_of_lt_of_le hz2 hb3.size; have hs3' : w.heap.size < W2.heap.size := by omega)
      | (go_at_call 13; refine (HPR.out _ (HT.out.below (btrans HB.out hb3) (Nat.le_refl _))).mono ?_; rintro e w4 ⟨rfl, hb4⟩; obtain ⟨hc4, hf4⟩ := bcell hb4; have hs4' : w.heap.size < w3.heap.size := by omega) | fail)
    · obtain ⟨r0, r1, r2, r3, r4, hb5⟩ := set5_at w3 w.heap.size (.int .i64 0) (.int .i64 0) (.float .f64 0) (.string ⟨#[]⟩) (.bool false) (fun j hj => by
        rw [hc3 _ _ (by omega), d0, Array.getElem?_eq_getElem (by exact hj)]; rfl)
      generalize World.setCell _ _ _ = W5 at *
      refine bodyPost_ret (v := .tuple #[val 0 0 0 [] false, .bool false]) (by simp [results, Tryz.results10, go_sem, r0, r1, r2, r3, r4]; try rfl) rfl ?_
      exact ⟨.inl rfl, (btrans HB.out hb3).trans hb5⟩
    · obtain ⟨r0, r1, r2, r3, r4, hb5⟩ := set5_at w4 w.heap.size (.int .i64 0) (.int .i64 0) (.float .f64 0) (.string ⟨#[]⟩) (.bool false) (fun j hj => by
        rw [hc4 _ _ (by omega), hc3 _ _ (by omega), d0, Array.getElem?_eq_getElem (by exact hj)]; rfl)
      generalize World.setCell _ _ _ = W5 at *
      refine bodyPost_ret (v := .tuple #[val 0 0 0 [] false, .bool false]) (by simp [results, Tryz.results10, go_sem, r0, r1, r2, r3, r4]; try rfl) rfl ?_
      exact ⟨.inl rfl, (btrans (btrans HB.out hb3) hb4).trans hb5⟩
    · obtain ⟨r0, r1, r2, r3, r4, hb5⟩ := set5_at w4 w.heap.size (.int .i64 2) (.int .i64 0) (.float .f64 0) (.string ⟨a.toArray⟩) (.bool false) (fun j hj => by
        rw [hc4 _ _ (by omega), hc3 _ _ (by omega), d0, Array.getElem?_eq_getElem (by exact hj)]; rfl)
      generalize World.setCell _ _ _ = W5 at *
      refine bodyPost_ret (v := .tuple #[val 2 0 0 a false, .bool true]) (by simp [results, Tryz.results10, go_sem, r0, r1, r2, r3, r4]; try rfl) rfl ?_
      exact ⟨.inr ⟨⟨2, 0, 0, a, false⟩, rfl, HRR.out.trans ‹R = true›, HPP.out.trans (ba_eq2 ‹(!P.toList == 34 :: r) = false›), rfl, zn, zi.1, zi.2⟩, (btrans (btrans HB.out hb3) hb4).trans hb5⟩
end Go.Proofs.YtnccpddjdgndcaaGreatDoor.Val
end

section
/- value.Read AT ANY TEXT: it answers a value whose text that is, or none. -/
namespace Go.Proofs.YtnccpddjdgndcaaGreatDoor.Val
open Go.RowKit Flt
/-- all that value.Read reads of the memory -/
structure RW (w : World) (B R o c : Nat) : Prop where
  tb : Tab.Tabs w
  aw : Pf.AW w B R o c
  ev : Pf.EvT w
  es : Unq.ErrS w
theorem RW.below {w w2 : World} {B R o c : Nat} (h : RW w B R o c) (hb : Below w.heap.size w w2) : RW w2 B R o c :=
  ⟨h.tb.below hb (Nat.le_refl _), h.aw.below hb, h.ev.below hb, Unq.err_below h.es hb⟩
theorem tl_list (l : List UInt8) : (⟨l.toArray⟩ : ByteArray).toList = l := by rw [Lib.toList_data]
theorem read_any (l : List UInt8) (hl : l.length ≤ 8000) (w : World) (B R o c : Nat) (h : RW w B R o c) :
    Calls Tryz.prog 10 #[.string ⟨l.toArray⟩] w fun e w' => RdA ⟨l.toArray⟩ e ∧ Below w.heap.size w w' := by
  by_cases h1 : l = [121, 101, 115]
  · subst h1
    refine (read_bool true w h.tb).mono ?_
    rintro e w' ⟨rfl, hb⟩
    exact ⟨.inr ⟨⟨3, 0, 0, [], true⟩, rfl, rfl, rfl, rfl, zn, zi.1, zi.2⟩, hb⟩
  by_cases h2 : l = [110, 111]
  · subst h2
    refine (read_bool false w h.tb).mono ?_
    rintro e w' ⟨rfl, hb⟩
    exact ⟨.inr ⟨⟨3, 0, 0, [], false⟩, rfl, rfl, rfl, rfl, zn, zi.1, zi.2⟩, hb⟩
  cases l with
  | nil => exact read_rest _ (by show 0 ≤ 9000; decide) w (by rw [tl_list]; exact h1) (by rw [tl_list]; rfl) (.inl (by rw [tl_list]; rfl)) h.tb B R o c h.aw h.ev
  | cons a r =>
    by_cases h3 : a = 34
    · subst h3
      exact read_quot r (by simp only [List.length_cons] at hl; omega) w h.tb h.es
    · refine read_rest _ (by show (a :: r).length ≤ 9000; omega) w (by rw [tl_list]; exact h1) (by rw [tl_list]; simpa using h2) (.inr ⟨by rw [tl_list]; rfl, ⟨by show 0 < (a :: r).length; simp, ?_⟩⟩) h.tb B R o c h.aw h.ev
      have : ¬ (((a.toNat : Nat) : Int) = 34) := fun e => h3 (by apply UInt8.toNat_inj.1; show a.toNat = 34; omega)
      exact beq_eq_false_iff_ne.2 this
end Go.Proofs.YtnccpddjdgndcaaGreatDoor.Val
end

section
/- THE TABLES OF ParseFloat's SLOW ROAD AND THE TWO ERRORS, as a row lays them; the two float formats' places. -/
namespace Go.Proofs.YtnccpddjdgndcaaGreatDoor.Pf
open Go.RowKit Go.Lib
/-- an array behind a slice, cell by cell -/
theorem slice_of_reads {P : Program} {w : World} {name : String} {g : Nat} {t e : TypeId} {l : List (DataW Unit)} (hn : P.globalNamed name = some g) (hy : (P.globals[g]?).map (·.type) = some t)
    (ht : P.underlying t = some (.slice e)) (hc : 0 < P.cellsOf e) (h0 : 0 < l.length) (h : VarReads P w name (.slice l [])) :
    ∃ R o c : Nat, w.cell? ⟨g, 0, none⟩ = some (.slice (some ⟨R, o, none⟩) l.length c) ∧ ∀ i d, l[i]? = some d → ∃ (ce : List Value) (m : Nat) (b : DataW Unit × List MemPlace), (∀ j, j < P.cellsOf e → w.cell? ⟨R, o + (i * P.cellsOf e + j), none⟩ = ce[j]?) ∧
      ce.length = P.cellsOf e ∧ DataW.trod (fun _ => ()) P w 0 (fun _ => true) false m e ce = some b ∧ b.1 = d := by
  obtain ⟨g', t', cs, fuel, p, hg, hty, hvar, hd⟩ := h
  obtain rfl := Option.some.inj (hn.symm.trans hg)
  obtain rfl := Option.some.inj (hy.symm.trans hty)
  rcases DataW.trod_slice ht hd with ⟨_, hx⟩ | ⟨a, len, cap, el, rs, m, rfl, hcs, hx, _, hlc, _, hel, helem, hsp, _⟩
  · cases hx
  have e0 := congrArg Prod.fst hx
  simp only [DataW.slice.injEq] at e0
  obtain ⟨eE, eR⟩ := e0
  have hlen : len = l.length := by
    have := congrArg List.length eE
    simp at this
    omega
  have key : ∀ i d, l[i]? = some d → ∃ (ce : List Value) (b : DataW Unit × List MemPlace), (∀ j, j < P.cellsOf e → w.cell? ((a.add (i * P.cellsOf e)).add j) = ce[j]?) ∧ ce.length = P.cellsOf e ∧ DataW.trod (fun _ => ()) P w 0 (fun _ => true) false m e ce = some b ∧ b.1 = d := by
    intro i d hi
    have hlt : i < l.length := (List.getElem?_eq_some_iff.1 hi).1
    have h1 := helem i (by omega)
    obtain ⟨b, hb⟩ : ∃ b, el[i]? = some b := ⟨el[i]'(by omega), List.getElem?_eq_getElem (by omega)⟩
    rw [hb] at h1
    obtain ⟨ce, hce, hte⟩ := Option.bind_eq_some_iff.1 h1
    obtain ⟨_, hcl, hcc⟩ := World.cells?_some hce
    refine ⟨ce, b, hcc, hcl, hte, ?_⟩
    have := congrArg (·[i]?) eE
    rw [List.getElem?_map, hb] at this
    rw [hi] at this
    simpa using this.symm
  obtain ⟨R, o, sR⟩ := a
  obtain rfl : sR = none := by
    obtain ⟨ce, b, h1, h2, _⟩ := key 0 l[0] (List.getElem?_eq_getElem h0)
    have h4 := h1 0 hc
    have e2 : ((Addr.add ⟨R, o, sR⟩ (0 * P.cellsOf e)).add 0) = ⟨R, o, sR⟩ := by simp [Addr.add]
    rw [e2, List.getElem?_eq_getElem (by omega)] at h4
    exact Go.Proofs.cell_spot h4
  refine ⟨R, o, cap, ?_, fun i d hi => ?_⟩
  · rw [World.var?_cell hn hvar 0, ← Array.getElem?_toList, hcs, hlen]
    rfl
  · obtain ⟨ce, b, h1, h2, h3, h4⟩ := key i d hi
    refine ⟨ce, m, b, fun j hj => ?_, h2, h3, h4⟩
    have := h1 j hj
    rw [Addr.add_lit, Addr.add_lit, Nat.add_assoc] at this
    exact this
/-- a struct's whole numbers -/
theorem field_of_reads {P : Program} {w : World} {name : String} {g : Nat} {t : TypeId} {fs : Array Field} {f : Field} {k : IntKind} {z : Int} {ds : List (DataW Unit)} (i : Nat) (hn : P.globalNamed name = some g) (hy : (P.globals[g]?).map (·.type) = some t) (ht : P.underlying t = some (.struct fs))
    (hf : fs[i]? = some f) (hc : P.cellsOf f.type = 1) (hk : P.underlying f.type = some (.int k)) (hd : ds[i]? = some (.lit (.int k z))) (h : VarReads P w name (.agg ds)) : w.cell? ⟨g, f.offset, none⟩ = some (.int k z) := by
  obtain ⟨g', t', cs, fuel, p, hg, hty, hvar, hdd⟩ := h
  obtain rfl := Option.some.inj (hn.symm.trans hg)
  obtain rfl := Option.some.inj (hy.symm.trans hty)
  obtain ⟨xs, n, rfl, hx, hl, hxl, hall⟩ := DataW.trod_struct ht hdd
  have e := congrArg Prod.fst hx
  simp only [DataW.agg.injEq] at e
  have h0 := hall i f hf
  rw [hc] at h0
  rw [e, List.getElem?_map] at hd
  obtain ⟨y, hy1, hy2⟩ := Option.map_eq_some_iff.1 hd
  rw [hy1] at h0
  obtain ⟨z', hz, hyz, _⟩ := DataW.trod_int hk h0
  rw [hyz] at hy2
  simp only [DataW.lit.injEq, Lit.int.injEq, true_and] at hy2
  rw [World.var?_cell hn hvar f.offset, ← Array.getElem?_toList]
  have := congrArg (·[0]?) hz
  simp only [List.getElem?_take, List.getElem?_drop, Nat.add_zero, List.getElem?_cons_zero] at this
  rw [← hy2]; simpa using this
def pows : List Nat := [1, 3, 6, 9, 13, 16, 19, 23, 26]
theorem pows_at : ∀ k : Nat, k < 9 → pows[k]? = some (Dc.pn k) := by decide
def cheats : List (DataW Unit) := .agg [.lit (.int .i64 0), .lit (.string [])] :: (List.range 60).map fun k => .agg [.lit (.int .i64 ((Dc.dl (k + 1) : Nat) : Int)), .lit (.string (Dc.ctB (k + 1)))]
/-- what a row must list -/
structure AwLists (l : List (String × DataW Unit)) : Prop where
  plain : (l.all fun x => x.2.handleName?.isNone) = true
  g1 : l.find? (fun x => x.1 == "internal/strconv.float64info") = some ("internal/strconv.float64info", .agg [.lit (.int .u64 52), .lit (.int .u64 11), .lit (.int .i64 (-1023))])
  g2 : l.find? (fun x => x.1 == "internal/strconv.powtab") = some ("internal/strconv.powtab", .slice (pows.map fun (z : Nat) => (.lit (.int .i64 (z : Int)) : DataW Unit)) [])
  g3 : l.find? (fun x => x.1 == "internal/strconv.leftcheats") = some ("internal/strconv.leftcheats", .slice cheats [])
  g4 : ∃ nm d, l.find? (fun x => x.1 == "strconv.ErrRange") = some ("strconv.ErrRange", .iface nm d)
  g5 : ∃ nm d, l.find? (fun x => x.1 == "strconv.ErrSyntax") = some ("strconv.ErrSyntax", .iface nm d)
theorem aw_of {l : List (String × DataW Unit)} {W : World} (L : AwLists l) (hP : PfW W) (hp : Fmt.Pow W) (hG : GlobT W) (h : laidMetH Tryz.prog l W) : EvT W ∧ ∃ R o c, AW W W.heap.size R o c := by
  rw [MakeChecks.laidMetH_plain _ _ _ L.plain] at h
  have f3 := L.g3
  obtain ⟨nm, d, f4⟩ := L.g4
  obtain ⟨nm5, d5, f5⟩ := L.g5
  have c1 : Tryz.prog.cellsOf 3 = 1 := by kernel_rfl
  have cs : Tryz.prog.cellsOf 9 = 1 := by kernel_rfl
  have c2 : Tryz.prog.cellsOf 227 = 2 := by kernel_rfl
  obtain ⟨u, v, hr⟩ := err_of_reads (g := 5) (by kernel_rfl) (by kernel_rfl) ⟨_, Tryz.underlying52⟩ (Tab.reads_of h f4)
  obtain ⟨u5, v5, hs⟩ := err_of_reads (g := 1) (by kernel_rfl) (by kernel_rfl) ⟨_, Tryz.underlying52⟩ (Tab.reads_of h f5)
  have r1 := Tab.reads_of h L.g1
  have i0 := field_of_reads 0 (g := 10) (by kernel_rfl) (by kernel_rfl) Tryz.underlying178 rfl (by kernel_rfl) (by kernel_rfl) rfl r1
  have i1 := field_of_reads 1 (g := 10) (by kernel_rfl) (by kernel_rfl) Tryz.underlying178 rfl (by kernel_rfl) (by kernel_rfl) rfl r1
  have i2 := field_of_reads 2 (g := 10) (by kernel_rfl) (by kernel_rfl) Tryz.underlying178 rfl (by kernel_rfl) (by kernel_rfl) rfl r1
  obtain ⟨R, o, c, h1, h2⟩ := slice_of_reads (g := 12) (by kernel_rfl) (by kernel_rfl) Tryz.underlying216 (by rw [c1]; decide) (by decide) (Tab.reads_of h L.g2)
  have hrow : ∀ k : Nat, k < 9 → W.cell? ⟨R, o + k, none⟩ = some (.int .i64 ((Dc.pn k : Nat) : Int)) := fun k hk => by
    obtain ⟨ce, m, b, g1, g2, g3, g4⟩ := h2 k _ (by rw [List.getElem?_map, pows_at k hk]; rfl)
    obtain ⟨z, hz, hb, _⟩ := DataW.trod_int Tryz.underlying3 g3
    rw [hb] at g4
    simp only [DataW.lit.injEq, Lit.int.injEq, true_and] at g4
    have := g1 0 (by rw [c1]; decide)
    rw [c1, Nat.mul_one, Nat.add_zero, hz, g4] at this
    exact this
  obtain ⟨R2, o2, k2, h3, h4⟩ := slice_of_reads (g := 17) (by kernel_rfl) (by kernel_rfl) Tryz.underlying228 (by rw [c2]; decide) (by simp [cheats]) (Tab.reads_of h f3)
  have hlc : ∀ k, 1 ≤ k → k ≤ 60 → W.cell? ⟨R2, o2 + k * 2, none⟩ = some (.int .i64 ((Dc.dl k : Nat) : Int)) ∧ W.cell? ⟨R2, o2 + k * 2 + 1, none⟩ = some (.string ⟨(Dc.ctB k).toArray⟩) := fun k k1 k60 => by
    obtain ⟨n, rfl⟩ : ∃ n, k = n + 1 := ⟨k - 1, by omega⟩
    obtain ⟨ce, m, b, g1, g2, g3, g4⟩ := h4 (n + 1) _ (by unfold cheats; rw [List.getElem?_cons_succ, List.getElem?_map, List.getElem?_range (by omega)]; rfl)
    obtain ⟨xs, q, rfl, hx, hl, hxl, hall⟩ := DataW.trod_struct Tryz.underlying227 g3
    have e := (congrArg Prod.fst hx).symm.trans g4
    simp only [DataW.agg.injEq] at e
    have a0 := hall 0 _ rfl
    have a1 := hall 1 _ rfl
    match xs, hxl, e with
    | [x, y], _, e =>
      simp only [List.map_cons, List.map_nil, List.cons.injEq, and_true] at e
      simp only [List.getElem?_cons_zero, List.getElem?_cons_succ] at a0 a1
      obtain ⟨z, hz, hb, _⟩ := DataW.trod_int Tryz.underlying3 a0
      obtain ⟨s, hs2, hb2, _⟩ := DataW.trod_string Tryz.underlying9 a1
      rw [hb, hb2] at e
      simp only [DataW.lit.injEq, Lit.int.injEq, Lit.string.injEq, true_and] at e
      have q0 := g1 0 (by rw [c2]; decide)
      have q1 := g1 1 (by rw [c2]; decide)
      rw [c2] at q0 q1
      have w0 := congrArg (·[0]?) hz
      have w1 := congrArg (·[0]?) hs2
      simp only [List.getElem?_take, List.getElem?_drop, List.getElem?_cons_zero] at w0 w1
      have w0' : ce[0]? = some (.int .i64 z) := by simpa [c1] using w0
      have w1' : ce[1]? = some (.string s) := by simpa [cs] using w1
      have es : s = ⟨(Dc.ctB (n + 1)).toArray⟩ := by
        apply ByteArray.ext
        rw [← e.2]
      rw [w0', e.1] at q0
      rw [w1', es] at q1
      exact ⟨q0, by rw [Nat.add_assoc]; exact q1⟩
  have bl : ∀ {a : Addr} {v : Value}, W.cell? a = some v → a.block < W.heap.size := fun h => World.block_lt_of_cell? _ _ h
  have hsz : cheats.length = 61 := by simp [cheats]
  rw [hsz] at h3
  refine ⟨⟨⟨_, hs, .inr ⟨_, _, rfl⟩⟩, ⟨_, hr, .inr ⟨_, _, rfl⟩⟩⟩, R, o, c, hP, hp, hG, ⟨i0, i1, i2, h1, hrow, ⟨R2, o2, k2, h3, hlc⟩, bl i0, bl h1, bl (hrow 0 (by decide)), fun R3 o3 c3 h5 => ?_⟩, Nat.le_refl _⟩
  rw [h3] at h5
  cases h5
  exact ⟨bl (hlc 1 (by decide) (by decide)).1, bl h3⟩
end Go.Proofs.YtnccpddjdgndcaaGreatDoor.Pf
end

section
/- The two float formats lie apart. -/
namespace Go.Proofs.YtnccpddjdgndcaaGreatDoor.Pf
open Go.RowKit
theorem glob_of (W : World) (h : W.ShapedOpen Tryz.checked.prog) : GlobT W := by
  have key : ∀ g : Nat, g < Tryz.checked.prog.globals.size → (((begin Tryz.checked.prog (fun _ _ => 0) default).world.heap[g]?).bind Obj.row?).isSome = true → ∃ c t, W.heap[g]? = some (.cells c t (0, 0)) := fun g hg hs => by
    obtain ⟨⟨z, t⟩, hz⟩ := Option.isSome_iff_exists.1 hs
    obtain ⟨cs, h1, _⟩ := h.1 g z t hg hz
    exact ⟨cs, t, h1⟩
  exact ⟨key 10 (of_decide_eq_true (by kernel_rfl)) (by kernel_rfl), key 9 (of_decide_eq_true (by kernel_rfl)) (by kernel_rfl)⟩
end Go.Proofs.YtnccpddjdgndcaaGreatDoor.Pf
end

section
/- THE WALK OF the law ValuePrints of chapter 02. -/
namespace Go.Proofs.YtnccpddjdgndcaaGreatDoor.Val
open Go.RowKit Flt
attribute [local go_sem] run_store_flt
theorem same_self (c : V) : sameB c c = true := by
  have h : Ord.same c.num c.num = true := by unfold Ord.same; simp
  unfold sameB
  simp [h]
theorem pf_of_w {w : World} (h : Pf.PfW w) : Pf.PfT w := by
  obtain ⟨h1, h2, R, o, c, h3, h4⟩ := h
  exact ⟨h1, h2, R, o, c, h3, h4 1 (by decide)⟩
end Go.Proofs.YtnccpddjdgndcaaGreatDoor.Val
end

section
/- THE WALK OF the law ValueReads of chapter 02, at any text. -/
namespace Go.Proofs.YtnccpddjdgndcaaGreatDoor.Val
open Go.RowKit Flt
attribute [local go_sem] run_store_flt
set_option maxRecDepth 100000 in
set_option maxHeartbeats 8000000 in
theorem vreads_any (s : List UInt8) (w : World) {B R o c : Nat} (h : RW w B R o c) (hs : s.length ≤ 140737488351232) :
    Calls Tryz.prog 3 #[.string ⟨s.toArray⟩] w fun e w' => e = .returned (.bool true) ∧ Below w.heap.size w w' := by
  have hfit := fun W (hb : Below w.heap.size w W) => fit02_any W (h.tb.below hb (Nat.le_refl _)) (pf_of_w (h.aw.pf.below hb (Nat.le_refl _)))
  have hrd := fun (hl : s.length ≤ 200) W (hb : Below w.heap.size w W) => read_any s (by omega) W B R o c (h.below hb)
  have hri : ∀ k n x t y, vRight ⟨k, n, x, t, y⟩ = true → ∀ W, Calls Tryz.prog 12 #[val k n x t y] W fun e w' => e = .returned (.bool true) ∧ Below W.heap.size W w' := fun k n x t y hr W => by
    have ht : t.length ≤ 40 := by
      unfold vRight at hr
      simp only [Bool.and_eq_true, decide_eq_true_eq] at hr
      exact hr.2
    have := vright_any k n x t y W (by omega)
    rw [hr] at this
    exact this
  have hpr : ∀ k n x t y, vRight ⟨k, n, x, t, y⟩ = true → x < 18446744073709551616 → -9223372036854775808 ≤ n → n ≤ 9223372036854775807 → (⟨(vT ⟨k, n, x, t, y⟩).toArray⟩ : ByteArray) = ⟨s.toArray⟩ → ∀ W, Below w.heap.size w W →
      Calls Tryz.prog 13 #[val k n x t y] W fun e w' => e = .returned (.string ⟨s.toArray⟩) ∧ Below W.heap.size W w' := fun k n x t y hr hx hn1 hn2 hp W hb => by
    have ht : t.length ≤ 40 := by
      unfold vRight at hr
      simp only [Bool.and_eq_true, decide_eq_true_eq] at hr
      exact hr.2
    have := vprint_any k n x t y W hx hn1 hn2 (by omega) (h.tb.below hb (Nat.le_refl _))
    rw [hp] at this
    exact this
  have hsm := fun W => same_any 0 0 0 [] false 0 0 0 [] false W (by decide) (by decide)
  rw [same_self] at hsm
  have HFIT := Lib.hid hfit; have HRD := Lib.hid hrd; have HRI := Lib.hid hri; have HPR := Lib.hid hpr; have HSM := Lib.hid hsm
  clear hfit hrd hri hpr hsm h
  go_enter Tryz.func3, Tryz.ntmps3
  by_cases hl : s.length ≤ 200
  · have i1 : ¬ (200 : Int) < (s.length : Int) := by omega
    go_upto_region 6 with (first | (go_at_call 9; (refine (HFIT.out _ (Below.refl _ _)).mono ?_); rintro e w1 ⟨rfl, hb1⟩) | (go_at_call 10; (refine (HRD.out hl _ hb1).mono ?_); rintro e w2 ⟨(rfl | ⟨⟨k, n, x, t, y⟩, rfl, hr, hp, hcv, hx, hn1, hn2⟩), hb2⟩) | fail)
    · have HB2 := Lib.hid (btrans hb1 hb2)
      clear hb1 hb2
      go_wp2_with (first | (go_at_call 11; (refine (HSM.out _).mono ?_); rintro e w3 ⟨rfl, hb3⟩; obtain ⟨c0, f0, hz3, hl3⟩ := one_box hb3) | fail)
      go_ret
      exact ⟨rfl, btrans HB2.out hl3⟩
    · have HB2 := Lib.hid (btrans hb1 hb2)
      have HR := Lib.hid (HRI.out k n x t y hr); have HP := Lib.hid (HPR.out k n x t y hr hx hn1 hn2 hp)
      clear hb1 hb2 hr hp hcv hx hn1 hn2
      go_wp2_with (first | (go_at_call 12; (refine (HR.out _).mono ?_); rintro e w3 ⟨rfl, hb3⟩; obtain ⟨c0, f0, hz3, hl3⟩ := one_box hb3) | (go_at_call 13; (refine (HP.out _ (btrans HB2.out hl3)).mono ?_); rintro e w4 ⟨rfl, hb4⟩) | fail)
      go_ret
      exact ⟨rfl, btrans (btrans HB2.out hl3) hb4⟩
  · have i1 : (200 : Int) < (s.length : Int) := by omega
    go_wp2_with (first | (go_at_call 9; (refine (HFIT.out _ (Below.refl _ _)).mono ?_); rintro e w1 ⟨rfl, hb1⟩) | fail)
    go_ret
    exact ⟨rfl, hb1⟩
end Go.Proofs.YtnccpddjdgndcaaGreatDoor.Val
end
