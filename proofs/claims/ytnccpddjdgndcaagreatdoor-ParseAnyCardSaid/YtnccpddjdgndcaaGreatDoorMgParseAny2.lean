/- MERGED BY A PROGRAM OF MINE (pmg.py) out of my own texts, pruned, in their order: DcR, DcL, DcH, DcS, DcT, DcP, Scope, DcB, DcF, DcG, RfFn, RfForm, ShelfE, Ira, Irb, ShelfV, ImplFn, OrdKey, Same, PaFn, ScFn. -/
import Derived.Test.YtnccpddjdgndcaaGreatDoorMgParseAny1
import Derived.Scope
import Derived.WalkMore
import Derived.Handy
import Derived.BigQuiet
import Derived.Test.YtnccpddjdgndcaaGreatDoorRfB
import Derived.Test.YtnccpddjdgndcaaGreatDoorFmtW
import Derived.Test.YtnccpddjdgndcaaGreatDoorRfDef
import Derived.Test.YtnccpddjdgndcaaGreatDoorShelf
import Derived.Shelf.Strings.Trim
import Derived.Shelf.Small.Utf8
import Derived.Shelf.Small.Strs
import Derived.Shelf.Utf8.AppendRune
import Derived.Shelf.Utf8.AppendRunePlain
import Derived.Shelf.Strconv.Bsearch
import Derived.Shelf.Strconv.IsPrint
import Derived.Shelf.Strconv.IsPrint16
import Derived.Shelf.Strconv.IsPrint32
import Derived.Shelf.Strconv.Escaped
import Derived.Shelf.Strconv.Quoted
import Derived.Shelf.Strconv.Quote
import Derived.Shelf.Strconv.Itoa0
import Derived.Shelf.Strconv.Itoa1
import Derived.Shelf.LaysM
import Derived.Shelf.Strconv.Itoa2
import Derived.Shelf.Strconv.Itoa3
import Derived.Shelf.Strconv.Itoa4
import Derived.Shelf.Strconv.ParseIntEmpty
import Derived.Shelf.Strconv.Clone
import Derived.Shelf.Strconv.SyntaxError
import Derived.Shelf.LaysC
import Derived.Shelf.Strconv.ToError
import Derived.Shelf.Strconv.Lower
import Derived.Shelf.Strconv.ParseUint10
import Derived.Shelf.Strconv.ParseUint10Empty
import Derived.Shelf.Strconv.ParseUint10Any
import Derived.Shelf.Strconv.ParseInt10
import Derived.Shelf.Strconv.RangeError
import Derived.Shelf.Strconv.ToErrorRange
import Derived.Shelf.Strconv.ParseUintEmpty
import Derived.Shelf.Strconv.ParseUint10b64
import Derived.Shelf.Strconv.ParseUint10b32
import Derived.Shelf.Strconv.ParseUint10b16
import Derived.Shelf.Strconv.ParseUint10b8
import Derived.Shelf.Strconv.ParseUint10At
import Derived.Shelf.Strconv.ParseInt10At64
import Derived.Shelf.Strconv.ParseInt10At32
import Derived.Shelf.Strconv.ParseInt10At16
import Derived.Shelf.Strconv.ParseInt10At8
import Derived.Shelf.Strconv.ParseInt10All
import Derived.Shelf.Strconv.ParseIntPublic10
import Derived.Shelf.Strconv.ErrVarParseInt
import Derived.Shelf.Strings.Search1
import Derived.Shelf.Strings.Search2
import Derived.Shelf.Strings.Search3
import Derived.Shelf.Strings.Cut
import Derived.Shelf.Strings.Shaped
import Derived.Shelf.Strconv.AppendUint10
import Derived.Shelf.Strconv.AppendInt10
import Derived.Shelf.Strings.Prefix
import Derived.Shelf.Unicode.Decode
import Derived.Shelf.Strings.Runes
import Derived.Shelf.Strings.IndexAny
import Derived.Shelf.Strings.AsciiSet
import Derived.Shelf.Strings.IndexAnyAll
import Derived.Shelf.Bits.Mul64
import Derived.Shelf.Unicode.DecodeSlow
import Derived.Shelf.Unicode.DecodeAny
import Derived.Shelf.Unicode.DecodeLast
import Derived.Test.YtnccpddjdgndcaaGreatDoorProg
import Derived.Deep.QuietTactic
import Derived.Deep.LoopGhost
import Derived.Lib.OthersKept
import Derived.Laws.RangeAny
import Derived.Lib.IndexLaws
import Derived.Lib.IndexAny
import Derived.Shelf.Unicode.ValidAny
import Derived.Test.YtnccpddjdgndcaaGreatDoorOrd
import Derived.Lib.TrimByte
import Derived.Lib.Bytealg
import Derived.Lib.Strings

section
/- THE WALK OF strconv's rightShift. -/
namespace Go.Proofs.YtnccpddjdgndcaaGreatDoor.Dc
open Go.RowKit
theorem shr_cast (n k : Nat) : (n : Int) / 2 ^ k = ((n / 2 ^ k : Nat) : Int) := by push_cast; rfl
theorem pick_go {k n r : Nat} {d : Nat} {ds : List Nat} (h : n / 2 ^ k = 0) : pick k n r (d :: ds) = pick k (n * 10 + d) (r + 1) ds := by rw [pick, if_pos h]
theorem pick_stop {k n r : Nat} (ds : List Nat) (h : ¬ n / 2 ^ k = 0) : (pick k n r ds).1 = n ∧ (pick k n r ds).2.1 = r ∧ (pick k n r ds).2.2 = ds := by
 cases ds with
 | nil =>
  have : mul10 k k n r = (n, r) := by
   cases k with
   | zero => rfl
   | succ k => rw [mul10, if_neg h]
  unfold pick
  rw [this]
  exact ⟨rfl, rfl, rfl⟩
 | cons d ds => rw [pick, if_neg h]; exact ⟨rfl, rfl, rfl⟩
theorem mul10_stop {k n : Nat} (f r : Nat) (h : ¬ n / 2 ^ k = 0) : mul10 k f n r = (n, r) := by
 cases f with
 | zero => rfl
 | succ f => rw [mul10, if_neg h]
theorem div_zero_lt {n k : Nat} (h : n / 2 ^ k = 0) : n < 2 ^ k := by
 rcases Nat.lt_or_ge n (2 ^ k) with g | g
 ·exact g
 ·have := Nat.div_pos g (Nat.pow_pos (by decide)); omega
theorem and_mask (n k : Nat) (hn : n < 18446744073709551616) (hk : 2 ^ k ≤ 1152921504606846976) : bits .and .u64 (n : Int) ((2 ^ k - 1 : Nat) : Int) = ((n % 2 ^ k : Nat) : Int) := by
 have e1 : (BitVec.ofInt 64 (n : Int)).toNat = n := by
  rw [BitVec.ofInt_natCast, BitVec.toNat_ofNat]; exact Nat.mod_eq_of_lt (by omega)
 have hp : 1 ≤ 2 ^ k := Nat.pow_pos (by decide)
 have e2 : (BitVec.ofInt 64 ((2 ^ k - 1 : Nat) : Int)).toNat = 2 ^ k - 1 := by
  rw [BitVec.ofInt_natCast, BitVec.toNat_ofNat]; exact Nat.mod_eq_of_lt (by omega)
 have hr : n % 2 ^ k < 2 ^ k := Nat.mod_lt _ hp
 show IntKind.u64.wrap ((BitVec.ofInt 64 (n : Int) &&& BitVec.ofInt 64 ((2 ^ k - 1 : Nat) : Int)).toNat : Int) = _
 rw [BitVec.toNat_and, e1, e2, Nat.and_two_pow_sub_one_eq_mod]
 generalize n % 2 ^ k = z at *
 rw [IntKind.wrap_u64]; omega
theorem w64_in {x : Int} (h0 : -9223372036854775808 ≤ x) (h1 : x ≤ 9223372036854775807) : wrap64 x = x := by unfold wrap64; omega
theorem u64_in {x : Int} (h0 : 0 ≤ x) (h1 : x ≤ 18446744073709551615) : IntKind.u64.wrap x = x := by rw [IntKind.wrap_u64]; omega
theorem lies_snoc {arr : Nat → Nat} {l : List Nat} {d : Nat} (h : Lies arr l) : Lies (upd arr l.length (48 + d)) (l ++ [d]) := fun i hi => by
 unfold upd
 by_cases e : i = l.length
 ·subst e
  rw [if_pos rfl]; simp
 ·rw [if_neg e, List.getElem_append_left (by simp at hi; omega)]
  exact h i _
set_option maxRecDepth 20000 in
set_option maxHeartbeats 4000000 in
theorem right_walk (b k : Nat) (s : DS) (w : World) (hd : DAt w b s.ds s.dp) (hok : Ok s) (h1 : 1 ≤ k) (hk : k ≤ 60) (hdp : -100000 ≤ s.dp ∧ s.dp ≤ 100000) :
  Calls Tryz.prog 177 #[.pointer (some ⟨b, 0, none⟩), .int .u64 (k : Int)] w fun e w' => e = .returned (.tuple #[]) ∧ DAt w' b (right k s).ds (right k s).dp ∧ DK b w w' := by
 obtain ⟨arr, hD, hL, h8⟩ := hd
 have hpos : 0 < 0 + val s.ds := by have := val_ge hok.hd; have := Nat.pow_pos (n := s.ds.length - 1) (show 0 < 10 by decide); omega
 have hP : 2 ^ k ≤ 1152921504606846976 := Nat.le_trans (Nat.pow_le_pow_right (by decide) hk) (by decide)
 have hP1 : 1 ≤ 2 ^ k := Nat.pow_pos (by decide)
 have HD := Lib.hid hD; have HL := Lib.hid hL; have HOK := Lib.hid hok; have HPOS := Lib.hid hpos
 clear hD hL hok hpos
 go_enter Tryz.func177, Tryz.ntmps177
 go_upto_block 0 with fail
 go_cut [4, 6] from 12 to 48 (fun v4 v6 wx => (∃ n r : Nat, v4 = .int .i64 (r : Int) ∧ v6 = .int .u64 (n : Int) ∧ r ≤ 1000 ∧ Hid ((pick k 0 0 s.ds).1 = n ∧ (pick k 0 0 s.ds).2.1 = r ∧ (pick k 0 0 s.ds).2.2 = s.ds.drop r)) ∧ w = wx)
 case first => as_aux_lemma =>
  go_wp2_with fail
  go_loopw [4, 6] (fun v4 v6 wr => (∃ n r : Nat, v4 = .int .i64 (r : Int) ∧ v6 = .int .u64 (n : Int) ∧ r ≤ s.ds.length ∧ n < 2 ^ k * 10 ∧ Hid (pick k n r (s.ds.drop r) = pick k 0 0 s.ds ∧ 0 < n + val (s.ds.drop r))) ∧ w = wr) (fun v4 _ _ => s.ds.length - (intOf v4).toNat)
  case atStart => exact ⟨⟨0, 0, rfl, rfl, Nat.zero_le _, by omega, Lib.hid ⟨rfl, HPOS.out⟩⟩, rfl⟩
  case round =>
   obtain ⟨⟨n, r, rfl, rfl, hr, hn, hp⟩, rfl⟩ := hrel
   have y8 := HD.out.nd
   by_cases hz : n / 2 ^ k = 0
   ·have q : ((n : Int) / 2 ^ k == 0) = true := by rw [shr_cast, hz]; rfl
    have hlt := div_zero_lt hz
    by_cases hrl : r < s.ds.length
    ·have hdr := List.drop_eq_getElem_cons hrl
     have yr := HD.out.d r (by omega)
     rw [HL.out r hrl] at yr
     have hg := HOK.out.dg s.ds[r] (List.getElem_mem hrl)
     generalize s.ds[r]'hrl = d at *
     have i1 : ¬ (s.ds.length : Int) ≤ (r : Int) := by omega
     have i2 : (0 : Int) ≤ (r : Int) := by omega
     have i3 : (r : Int) < 800 := by omega
     have HDR := Lib.hid hdr; have HZ := Lib.hid hz
     clear hdr hz hP1
     go_wp2_with fail
     refine ⟨⟨⟨n * 10 + d, r + 1, by go_num, ?_, by omega, by omega, Lib.hid ?_⟩, trivial⟩, by simp [intOf]; go_num⟩
     ·go_num
     ·have h := hp.out
      rw [HDR.out, pick_go HZ.out] at h
      refine ⟨h.1, ?_⟩
      have h2 := h.2
      rw [val_cons] at h2
      rcases Nat.eq_zero_or_pos d with g | g
      ·rw [g] at h2 ⊢; omega
      ·omega
    ·obtain rfl : r = s.ds.length := by omega
     have hnil : s.ds.drop s.ds.length = [] := List.drop_length
     have h := hp.out
     rw [hnil] at h
     have hn0 : 0 < n := by have := h.2; simp [val] at this; omega
     have q2 : ((n : Int) == 0) = false := by rw [beq_eq_false_iff_ne]; omega
     have hm : (mul10 k k n s.ds.length).1 = (pick k 0 0 s.ds).1 ∧ (mul10 k k n s.ds.length).2 = (pick k 0 0 s.ds).2.1 ∧ (pick k 0 0 s.ds).2.2 = [] := by
      rw [← h.1]; exact ⟨rfl, rfl, rfl⟩
     have hle : 2 ^ k ≤ n * 2 ^ k := Nat.le_mul_of_pos_left _ hn0
     have HM := Lib.hid hm; have HLE := Lib.hid hle
     clear h hm hle hnil hp hz
     go_wp2_with fail
     go_loopw [4, 6] (fun v4 v6 wr => (∃ n2 f j : Nat, v4 = .int .i64 ((s.ds.length + j : Nat) : Int) ∧ v6 = .int .u64 (n2 : Int) ∧ j + f = k ∧ n2 < 2 ^ k * 10 ∧ 0 < n2 ∧ Hid (mul10 k f n2 (s.ds.length + j) = mul10 k k n s.ds.length ∧ 2 ^ k ≤ n2 * 2 ^ f)) ∧ w = wr) (fun v4 _ _ => s.ds.length + k - (intOf v4).toNat)
     case atStart => exact ⟨⟨n, k, 0, rfl, rfl, by omega, hn, hn0, Lib.hid ⟨rfl, HLE.out⟩⟩, rfl⟩
     case round =>
      obtain ⟨⟨n2, f, j, rfl, rfl, hjf, hn2, hn20, hmm⟩, rfl⟩ := hrel
      by_cases hz : n2 / 2 ^ k = 0
      ·have q3 : ((n2 : Int) / 2 ^ k == 0) = true := by rw [shr_cast, hz]; rfl
       have hlt2 := div_zero_lt hz
       have hf : 1 ≤ f := by
        rcases Nat.eq_zero_or_pos f with g | g
        ·exfalso
         have := hmm.out.2
         rw [g, Nat.pow_zero, Nat.mul_one] at this
         omega
        ·exact g
       obtain ⟨f, rfl⟩ : ∃ f2, f = f2 + 1 := ⟨f - 1, by omega⟩
       have HZ := Lib.hid hz
       clear hz hP1 hf
       go_wp2_with fail
       refine ⟨⟨⟨n2 * 10, f, j + 1, by go_num, by go_num, by omega, by omega, by omega, Lib.hid ?_⟩, trivial⟩, by simp [intOf]; go_num⟩
       have h := hmm.out
       rw [mul10, if_pos HZ.out] at h
       refine ⟨h.1, ?_⟩
       have h2 := h.2
       rw [Nat.pow_succ] at h2
       have : n2 * (2 ^ f * 2) ≤ n2 * 10 * 2 ^ f := by
        rw [Nat.mul_assoc, Nat.mul_comm (2 ^ f) 2]
        exact Nat.mul_le_mul_left _ (Nat.mul_le_mul_right _ (by decide))
       omega
      ·have q3 : ((n2 : Int) / 2 ^ k == 0) = false := by rw [shr_cast, beq_eq_false_iff_ne]; omega
       have hs := mul10_stop f (s.ds.length + j) hz
       have HS := Lib.hid hs
       clear hs hz
       go_wp2_with fail
       go_meet
       refine ⟨⟨n2, s.ds.length + j, rfl, rfl, by omega, Lib.hid ?_⟩, rfl⟩
       have h := hmm.out.1
       rw [HS.out] at h
       obtain ⟨a1, a2, a3⟩ := HM.out
       rw [← h] at a1 a2
       refine ⟨a1.symm, a2.symm, ?_⟩
       rw [a3, List.drop_of_length_le (by omega)]
   ·have q : ((n : Int) / 2 ^ k == 0) = false := by rw [shr_cast, beq_eq_false_iff_ne]; omega
    have hs := pick_stop (r := r) (s.ds.drop r) hz
    have HS := Lib.hid hs
    clear hs hz
    go_wp2_with fail
    go_meet
    refine ⟨⟨n, r, rfl, rfl, by omega, Lib.hid ?_⟩, rfl⟩
    rw [← hp.out.1]
    exact HS.out
 case rest => as_aux_lemma =>
  obtain ⟨⟨n, r, rfl, rfl, hr, hpk⟩, rfl⟩ := hcut
  obtain ⟨n', r', rest, e1, e2, e3, e4, e5, e6, e7, e8⟩ := right_spec k s HOK.out
  have hpk2 := hpk.out
  rw [e1] at hpk2
  obtain ⟨p1, p2, p3⟩ := hpk2
  have p1 : n' = n := p1
  have p2 : r' = r := p2
  have p3 : rest = s.ds.drop r := p3
  subst p1 p2 p3
  have hright : right k s = ⟨trimZ ((divGo k n' (s.ds.drop r')).take 800), s.dp - ((r' : Int) - 1), s.tr || lost (divGo k n' (s.ds.drop r'))⟩ := by
   unfold right; rw [e1]
  have HR := Lib.hid hright; have HG := Lib.hid e5; have HH := Lib.hid e6
  clear e1 e4 e5 e6 e7 e8 hright hpk HPOS
  have y8 := HD.out.nd; have y9 := HD.out.dp; have yz := HD.out.fz
  have j1 : wrap64 ((r' : Int) - 1) = (r' : Int) - 1 := w64_in (by omega) (by omega)
  have j2 : wrap64 (s.dp - ((r' : Int) - 1)) = s.dp - ((r' : Int) - 1) := w64_in (by omega) (by omega)
  have hPz : ((2 : Int) ^ k) = ((2 ^ k : Nat) : Int) := by push_cast; rfl
  have u1 : IntKind.u64.wrap ((2 : Int) ^ k) = (2 : Int) ^ k := u64_in (by rw [hPz]; omega) (by rw [hPz]; omega)
  obtain ⟨M, hM⟩ : ∃ M : Nat, 2 ^ k - 1 = M := ⟨_, rfl⟩
  have u2 : IntKind.u64.wrap ((2 : Int) ^ k - 1) = (M : Int) := by rw [u64_in (by rw [hPz]; omega) (by rw [hPz]; omega), hPz]; omega
  have hand := fun (n : Nat) (hn : n < 2 ^ k * 10) => and_mask n k (by omega) hP
  rw [hM] at hand
  have hdv : ∀ n : Nat, n < 2 ^ k * 10 → n / 2 ^ k ≤ 9 ∧ n % 2 ^ k < 2 ^ k := fun n hn => ⟨by have := lt_of_div hn; omega, Nat.mod_lt _ hP1⟩
  have HAND := Lib.hid hand; have HDV := Lib.hid hdv
  clear p1 p2 p3 hand hdv hM hPz
  have hd2 := HD.out.setDp (s.dp - ((r' : Int) - 1))
  obtain ⟨dp2, hdp2⟩ : ∃ d2 : Int, s.dp - ((r' : Int) - 1) = d2 := ⟨_, rfl⟩
  rw [hdp2] at HR j2 hd2
  obtain ⟨o, ho⟩ : ∃ o, divGo k n' (s.ds.drop r') = o := ⟨_, rfl⟩
  rw [ho] at HR HG HH
  have HO := Lib.hid ho; have HDP := Lib.hid hdp2; have HD2 := Lib.hid hd2
  clear ho hd2 hdp
  go_upto_region 15 with fail
  clear hdp2 HDP y8 y9 yz j1 j2
  have hdk : DK b w (w.setCell ⟨b, 801, none⟩ (.int .i64 dp2)) := dk_set _ _ _ _
  have HDK := Lib.hid hdk
  clear hdk
  generalize World.setCell w _ _ = W1 at *
  go_loopw [4, 5, 6] (fun v4 v5 v6 wr => ∃ (n r m : Nat) (done : List Nat) (ar2 : Nat → Nat), v4 = .int .i64 (r : Int) ∧ v5 = .int .i64 (m : Int) ∧ v6 = .int .u64 (n : Int) ∧ m = done.length ∧ r = r' + m ∧ m ≤ 800 ∧ (m = 0 ∨ r ≤ s.ds.length) ∧ n < 2 ^ k * 10 ∧ Hid (done ++ divGo k n (s.ds.drop r) = o) ∧ Hid (DArr wr b ar2 (s.ds.length : Int) dp2 ∧ Lies ar2 done ∧ ∀ i, m ≤ i → ar2 i = arr i) ∧ Hid (DK b w wr)) (fun v4 _ _ _ => s.ds.length - (intOf v4).toNat)
  case atStart => exact ⟨n', r', 0, [], arr, rfl, rfl, rfl, rfl, rfl, by omega, .inl rfl, e3, Lib.hid HO.out, Lib.hid ⟨HD2.out, fun i hi => absurd hi (by simp), fun _ _ => rfl⟩, HDK⟩
  case round =>
   obtain ⟨n, r, m, done, ar2, rfl, rfl, rfl, hm, hr2, hm8, hmr, hn, hgo, hda, hdk⟩ := hrel
   have y8 := hda.out.1.nd; have yz := hda.out.1.fz
   obtain ⟨q9, qr⟩ := HDV.out n hn
   have qand := HAND.out n hn
   have qdv := shr_cast n k
   by_cases hrl : r < s.ds.length
   ·have i1 : (r : Int) < (s.ds.length : Int) := by omega
    have i2 : (0 : Int) ≤ (r : Int) := by omega
    have i3 : (r : Int) < 800 := by omega
    have i4 : (m : Int) < 800 := by omega
    have i5 : (0 : Int) ≤ (m : Int) := by omega
    have yr := hda.out.1.d r (by omega)
    rw [hda.out.2.2 r (by omega), HL.out r hrl] at yr
    have ym := hda.out.1.d m (by omega)
    have hg := HOK.out.dg s.ds[r] (List.getElem_mem hrl)
    have hdr := List.drop_eq_getElem_cons hrl
    generalize s.ds[r]'hrl = d at *
    have hgo2 := hgo.out
    rw [hdr, divGo] at hgo2
    generalize n / 2 ^ k = Q at *
    generalize n % 2 ^ k = R at *
    have HGO2 := Lib.hid hgo2; have HM := Lib.hid hm; have HR2 := Lib.hid hr2
    clear hgo2 hdr hgo hm hr2
    go_wp2_with fail
    have hv : (Q : Int) + 48 = ((48 + Q : Nat) : Int) := by push_cast; omega
    rw [hv]
    have hml := HM.out
    have hrl2 := HR2.out
    have hmr3 : m < r' + m ∨ m < 800 := by omega
    refine ⟨⟨R * 10 + d, r + 1, m + 1, done ++ [Q], upd ar2 m (48 + Q), by go_num, by go_num, by go_num, by simp [hml], by omega, by omega, .inr (by omega), by omega, Lib.hid ?_, Lib.hid ⟨hda.out.1.setD m (48 + Q) (by omega), ?_, fun i hi => ?_⟩, Lib.hid (hdk.out.trans (dk_set _ _ _ _))⟩, by simp [intOf]; go_num⟩
    ·rw [List.append_assoc]; exact HGO2.out
    ·rw [hml]; exact lies_snoc hda.out.2.1
    ·unfold upd
     rw [if_neg (by omega)]
     exact hda.out.2.2 i (by omega)
   ·have i1 : ¬ (r : Int) < (s.ds.length : Int) := by omega
    have hnil : s.ds.drop r = [] := List.drop_of_length_le (by omega)
    have hgo2 := hgo.out
    rw [hnil] at hgo2
    have HGO2 := Lib.hid hgo2; have HM := Lib.hid hm; have HR2 := Lib.hid hr2
    clear hgo2 hnil hgo hm hr2 qand qdv
    go_upto_region 23 with fail
    rw [divGo] at HGO2
    clear HO HD HD2 HDK hmr hrl i1 y8 e2 e3
    have hml := HM.out
    have htk : done.take 800 = done := List.take_of_length_le (by omega)
    have hlies : Lies ar2 (done.take 800) := by rw [htk]; exact hda.out.2.1
    have HLS := Lib.hid hlies; have HML := Lib.hid hml
    clear htk hlies hml HM HR2 yz q9 qr
    go_loopg [5, 6] (k + 2) (fun g v5 v6 wr => ∃ (n m i : Nat) (done : List Nat) (ar2 : Nat → Nat), v5 = .int .i64 (m : Int) ∧ v6 = .int .u64 (n : Int) ∧ Hid (m = min 800 done.length) ∧ m ≤ 800 ∧ n < 2 ^ k * 10 ∧ i + g = k + 2 ∧ Hid ((i ≤ k → 2 ^ i ∣ n) ∧ (k < i → n = 0)) ∧ Hid (done ++ divTail k g n = o) ∧ Hid (DArr wr b ar2 (s.ds.length : Int) dp2 ∧ Lies ar2 (done.take 800)) ∧ Hid (DK b w wr))
    case atStart => exact ⟨n, m, 0, done, ar2, rfl, rfl, Lib.hid (by have := HML.out; omega), hm8, hn, by omega, Lib.hid ⟨fun _ => by simp, fun h => by omega⟩, HGO2, Lib.hid ⟨hda.out.1, HLS.out⟩, hdk⟩
    case round =>
     obtain ⟨n, m, i, done, ar2, rfl, rfl, hml, hm8, hn, hig, hpw, hgo, hda, hdk⟩ := hrel
     have y8 := hda.out.1.nd; have yz := hda.out.1.fz
     obtain ⟨q9, qr⟩ := HDV.out n hn
     have qand := HAND.out n hn
     have qdv := shr_cast n k
     by_cases hn0 : n = 0
     ·have hfin : done = o := by
       have h := hgo.out
       rw [hn0] at h
       have hz : divTail k gk 0 = [] := by cases gk <;> simp [divTail]
       rw [hz, List.append_nil] at h
       exact h
      subst hfin
      have i1 : ¬ (0 : Int) < (n : Int) := by omega
      have hlen : ((done.take 800).length : Int) = (m : Int) := by have := hml.out; rw [List.length_take]; omega
      have hht : Hd (done.take 800) := by
       obtain ⟨d, t, e, h0⟩ := HH.out
       exact ⟨d, t.take 799, by rw [e]; rfl, h0⟩
      have hnd := hda.out.1.setNd (m : Int)
      have htr := fun W (hW : DArr W b ar2 (m : Int) dp2) => trim_any b ar2 (done.take 800) dp2 W (by rw [hlen]; exact hW) hda.out.2 (by rw [List.length_take]; omega) (fun d hd => HG.out d (List.mem_of_mem_take hd))
      rw [trimDp_hd hht] at htr
      have HTR := Lib.hid htr; have HND := Lib.hid hnd
      clear hlen hht hnd htr qand qdv q9 qr hgo
      go_wp2_with (first | (go_at_call 175; refine (HTR.out _ HND.out).mono ?_; rintro e w9 ⟨rfl, h9, k9⟩) | fail)
      go_end0
      refine ⟨rfl, ?_, hdk.out.trans ((dk_set _ _ _ _).trans k9)⟩
      rw [HR.out]
      exact h9
     ·have i1 : (0 : Int) < (n : Int) := by omega
      have hik : i ≤ k := by
       rcases Nat.lt_or_ge k i with g | g
       ·exact absurd (hpw.out.2 g) hn0
       ·exact g
      have hgk : 1 ≤ gk := by omega
      obtain ⟨g3, rfl⟩ : ∃ g3, gk = g3 + 1 := ⟨gk - 1, by omega⟩
      have hgo2 := hgo.out
      rw [divTail, if_neg hn0] at hgo2
      have hdvd : 2 ^ i ∣ n % 2 ^ k := (Nat.dvd_mod_iff (Nat.pow_dvd_pow 2 hik)).2 (hpw.out.1 hik)
      have hpw2 : (i + 1 ≤ k → 2 ^ (i + 1) ∣ n % 2 ^ k * 10) ∧ (k < i + 1 → n % 2 ^ k * 10 = 0) := by
       refine ⟨fun _ => ?_, fun g => ?_⟩
       ·obtain ⟨x, hx⟩ := hdvd
        rw [hx]
        exact ⟨x * 5, by rw [Nat.pow_succ, Nat.mul_assoc, Nat.mul_assoc]; congr 1; omega⟩
       ·have : i = k := by omega
        subst this
        rw [Nat.mod_eq_zero_of_dvd (hpw.out.1 hik)]
      generalize n / 2 ^ k = Q at *
      generalize n % 2 ^ k = R at *
      have HGO2 := Lib.hid hgo2; have HPW2 := Lib.hid hpw2
      clear hgo2 hpw2 hdvd hgo hpw
      by_cases hm : m < 800
      ·have i4 : (m : Int) < 800 := by omega
       have i5 : (0 : Int) ≤ (m : Int) := by omega
       have ym := hda.out.1.d m hm
       have hdl : m = done.length := by have := hml.out; omega
       have HDL := Lib.hid hdl
       clear hdl hml
       go_wp2_with fail
       have hv : (Q : Int) + 48 = ((48 + Q : Nat) : Int) := by push_cast; omega
       rw [hv]
       go_roundg g3
       case measure => omega
       case rel =>
        have hdl := HDL.out
        refine ⟨R * 10, m + 1, i + 1, done ++ [Q], upd ar2 m (48 + Q), by go_num, by go_num, Lib.hid (by simp; omega), by omega, by omega, by omega, HPW2, Lib.hid ?_, Lib.hid ⟨hda.out.1.setD m (48 + Q) hm, ?_⟩, Lib.hid (hdk.out.trans (dk_set _ _ _ _))⟩
        ·rw [List.append_assoc]; exact HGO2.out
        ·have h2 := hda.out.2
         rw [List.take_of_length_le (by omega)] at h2
         rw [List.take_of_length_le (by simp; omega), hdl]
         exact lies_snoc h2
      ·have i4 : ¬ (m : Int) < 800 := by omega
       have htk : (done ++ [Q]).take 800 = done.take 800 := by
        have := hml.out
        rw [List.take_append_of_le_length (by omega)]
       have hmm : m = min 800 (done ++ [Q]).length := by have := hml.out; simp; omega
       have HTK := Lib.hid htk; have HMM := Lib.hid hmm
       obtain ⟨tr0, y3⟩ := hda.out.1.tr
       clear htk hmm hml
       by_cases hq : Q = 0
       ·have q0 : ¬ (0 : Int) < (Q : Int) := by omega
        go_wp2_with fail
        go_roundg g3
        case measure => omega
        case rel =>
         exact ⟨R * 10, m, i + 1, done ++ [Q], ar2, rfl, by go_num, HMM, by omega, by omega, by omega, HPW2, Lib.hid (by rw [List.append_assoc]; exact HGO2.out), Lib.hid ⟨hda.out.1, by rw [HTK.out]; exact hda.out.2⟩, hdk⟩
       ·have q0 : (0 : Int) < (Q : Int) := by omega
        go_wp2_with fail
        go_roundg g3
        case measure => omega
        case rel =>
         exact ⟨R * 10, m, i + 1, done ++ [Q], ar2, rfl, by go_num, HMM, by omega, by omega, by omega, HPW2, Lib.hid (by rw [List.append_assoc]; exact HGO2.out), Lib.hid ⟨hda.out.1.setTr true, by rw [HTK.out]; exact hda.out.2⟩, Lib.hid (hdk.out.trans (dk_set _ _ _ _))⟩
end Go.Proofs.YtnccpddjdgndcaaGreatDoor.Dc
end

section
/- THE SHEET OF strconv's leftShift, ITS WALK. -/
namespace Go.Proofs.YtnccpddjdgndcaaGreatDoor.Dc
open Go.RowKit
def ct (k : Nat) : List Nat := (mulTail 43 (5 ^ k)).reverse
def dl (k : Nat) : Nat := k + 1 - (ct k).length
def ctB (k : Nat) : List UInt8 := (ct k).map fun d => UInt8.ofNat (48 + d)
theorem five_end : ∀ m : Nat, 5 ^ (m + 1) % 10 = 5
  | 0 => rfl
  | m + 1 => by
    have := five_end m
    rw [Nat.pow_succ]
    omega
theorem row_all (k : Nat) (h1 : 1 ≤ k) (hk : k ≤ 60) : Row k (dl k) (ct k) := by
  have h43 : 5 ^ k < 10 ^ 43 := by
    have : 5 ^ k ≤ 5 ^ 60 := Nat.pow_le_pow_right (by decide) hk
    have : (5 : Nat) ^ 60 < 10 ^ 43 := by decide
    omega
  have p5 : 0 < 5 ^ k := Nat.pow_pos (by decide)
  obtain ⟨e1, e2, _, e4⟩ := mulTail_spec 43 (5 ^ k) h43
  obtain ⟨f1, f2⟩ := e4 (by omega)
  have hg : Dg (ct k) := fun d hd => e1 d (List.mem_reverse.1 hd)
  have hv : val (ct k) = 5 ^ k := by unfold ct; rw [← lv_val, e2]
  have hlen : (ct k).length = (mulTail 43 (5 ^ k)).length := List.length_reverse
  have hlk : (ct k).length ≤ k + 1 := by
    rw [hlen]
    rcases Nat.lt_or_ge k ((mulTail 43 (5 ^ k)).length - 1) with g | g
    · exfalso
      have a : 10 ^ (k + 1) ≤ 10 ^ ((mulTail 43 (5 ^ k)).length - 1) := Nat.pow_le_pow_right (by decide) g
      have b : 5 ^ k ≤ 10 ^ k := Nat.pow_le_pow_left (by decide) k
      have c : 10 ^ k < 10 ^ (k + 1) := Nat.pow_lt_pow_right (by decide) (by omega)
      omega
    · omega
  refine ⟨hv, by unfold dl; omega, hg, ?_, ?_⟩
  · cases hc : ct k with
    | nil => rw [hc] at hlen; simp at hlen; omega
    | cons d r =>
      refine ⟨d, r, rfl, ?_⟩
      rintro rfl
      have := val_lt r fun x hx => hg x (by rw [hc]; exact List.mem_cons_of_mem _ hx)
      rw [← hlen, ← hv, hc, val_cons, List.length_cons, Nat.add_sub_cancel] at f2
      omega
  · have h5 : 5 ^ k % 10 = 5 := by
      obtain ⟨m, rfl⟩ : ∃ m, k = m + 1 := ⟨k - 1, by omega⟩
      exact five_end m
    refine ⟨(mulTail 42 (5 ^ k / 10)).reverse, 5, ?_, by decide⟩
    have : mulTail 43 (5 ^ k) = 5 ^ k % 10 :: mulTail 42 (5 ^ k / 10) := by
      show (if 5 ^ k = 0 then [] else _) = _
      rw [if_neg (Nat.ne_of_gt p5)]
    unfold ct
    rw [this, h5, List.reverse_cons]
theorem ctB_len (k : Nat) : (ctB k).length = (ct k).length := List.length_map ..
def LcT (w : World) : Prop := ∃ R o c : Nat, w.cell? ⟨17, 0, none⟩ = some (.slice (some ⟨R, o, none⟩) 61 c) ∧
  ∀ k, 1 ≤ k → k ≤ 60 → w.cell? ⟨R, o + k * 2, none⟩ = some (.int .i64 ((dl k : Nat) : Int)) ∧ w.cell? ⟨R, o + k * 2 + 1, none⟩ = some (.string ⟨(ctB k).toArray⟩)
theorem LcT.drewN {w : World} (h : LcT w) (n : Nat) : LcT (w.drewN n) := by
  obtain ⟨R, o, c, h1, h2⟩ := h
  exact ⟨R, o, c, by simpa using h1, fun k a b => by simpa using h2 k a b⟩
theorem shl_cast (n k : Nat) : (n : Int) * 2 ^ k = ((n * 2 ^ k : Nat) : Int) := by push_cast; rfl
theorem rev_at (a r : List Nat) (x : Nat) : ((a ++ x :: r).reverse).getD r.length 0 = x := by
  rw [List.reverse_append, List.reverse_cons, List.append_assoc, List.getD_eq_getElem?_getD, List.getElem?_append_right (by simp)]
  simp
set_option maxRecDepth 20000 in
set_option maxHeartbeats 4000000 in
theorem left_walk (b k : Nat) (s : DS) (w : World) (hd : DAt w b s.ds s.dp) (hok : Ok s) (h1 : 1 ≤ k) (hk : k ≤ 60) (hdp : -100000 ≤ s.dp ∧ s.dp ≤ 100000) (hLc : LcT w) :
    Calls Tryz.prog 176 #[.pointer (some ⟨b, 0, none⟩), .int .u64 (k : Int)] w fun e w' => e = .returned (.tuple #[]) ∧ DAt w' b (left k s).ds (left k s).dp ∧ DK b w w' := by
  obtain ⟨arr, hD, hL, h8⟩ := hd
  obtain ⟨R, o, c, g0, g1⟩ := hLc
  obtain ⟨g2, g3⟩ := g1 k h1 hk
  have hrow := row_all k h1 hk
  have hll := left_len hrow hk s.ds hok.dg hok.hd
  have hcl : (ct k).length ≤ 61 := by have := hrow.len; omega
  have hpl := fun W (hW : Shows W b s.ds) => pless_any b 800 s.ds (ctB k) (ct k) W hW hok.dg h8 (ctB_len k) (by rw [ctB_len]; omega) (fun i h => by
    have h9 := hrow.dg _ (List.getElem_mem h)
    unfold ctB
    rw [List.getElem_map]
    show (48 + (ct k)[i]) % 256 = _
    omega) hrow.dg
  have hls := left_spec k hk s hok
  have hP : 2 ^ k ≤ 1152921504606846976 := Nat.le_trans (Nat.pow_le_pow_right (by decide) hk) (by decide)
  have hdl : dl k ≤ 61 := by unfold dl; omega
  have HD := Lib.hid hD; have HL := Lib.hid hL; have HOK := Lib.hid hok; have HPL := Lib.hid hpl; have HLL := Lib.hid hll; have HLS := Lib.hid hls
  have hshow : Shows w b s.ds := fun i hi => by rw [hD.d i (by omega), hL i hi]
  have HSH := Lib.hid hshow
  clear hD hL hok hpl hll hls hrow hcl g1 hshow
  generalize dl k = δ at *
  generalize ctB k = cB at *
  generalize ct k = cL at *
  have y8 := HD.out.nd; have y9 := HD.out.dp; have yz := HD.out.fz
  have i1 : (0 : Int) ≤ (k : Int) := by omega
  have i2 : (k : Int) < 61 := by omega
  have i3 : (0 : Int) ≤ (s.ds.length : Int) := by omega
  have i4 : (s.ds.length : Int) ≤ 800 := by omega
  go_enter Tryz.func176, Tryz.ntmps176
  go_upto_region 1 with fail
  go_quiet ((go_at_call 195; exact Calls.quiet_of (HPL.out _ (fun i hi => by simpa using HSH.out i hi))))
  obtain ⟨pl, hplv⟩ : ∃ pl, preLess s.ds cL = pl := ⟨_, rfl⟩
  rw [hplv]
  replace HLL := HLL.out
  rw [hplv] at HLL
  have hnl : ∃ l : Nat, (mulGo k 0 s.ds.reverse).length = l := ⟨_, rfl⟩
  obtain ⟨l, hl⟩ := hnl
  rw [hl] at HLL
  have HL0 := Lib.hid hl
  have hls4 := HLS.out.2.2.2
  rw [hl] at hls4
  clear hl hplv HPL HSH g0 g2 g3
  obtain ⟨E, hE⟩ : ∃ E : Nat, l = s.ds.length + E := ⟨l - s.ds.length, by omega⟩
  have HE := Lib.hid hE
  have hE61 : E ≤ 61 := by have := HLL.1; split at this <;> omega
  clear hE
  go_upto_if 30 with fail
  go_cut [4] from 31 to 32 (fun v4 wx => v4 = .int .i64 (E : Int) ∧ w.drewN nq = wx)
  case first => as_aux_lemma =>
    have hE := HE.out
    obtain ⟨l1, l2⟩ := HLL
    cases pl
    · simp only [Bool.false_eq_true, if_false] at l1
      have : δ = E := by omega
      subst this
      clear hE l1 l2
      go_wp2_with fail
      go_meet
      exact ⟨rfl, rfl⟩
    · simp only [if_true] at l1 l2
      have : δ = E + 1 := by omega
      subst this
      clear hE l1 l2
      go_wp2_with fail
      go_meet
      first | exact ⟨rfl, rfl⟩ | exact ⟨by go_num, rfl⟩
  case rest => as_aux_lemma =>
    obtain ⟨rfl, rfl⟩ := hcut
    have HD2 := Lib.hid (HD.out.drewN nq)
    have HDK := Lib.hid (dk_drewN b nq w)
    clear HLL
    obtain ⟨o, ho⟩ : ∃ o, (mulGo k 0 s.ds.reverse).reverse = o := ⟨_, rfl⟩
    have hlen : o.length = l := by rw [← ho, List.length_reverse]; exact HL0.out
    have hleft : left k s = ⟨trimZ (o.take 800), s.dp + ((l : Int) - (s.ds.length : Int)), s.tr || lost o⟩ := by
      unfold left
      simp only
      rw [ho, hlen]
    have hgo : (mulGo k 0 s.ds.reverse) = o.reverse := by rw [← ho, List.reverse_reverse]
    have hls := HLS.out
    rw [ho] at hls
    have HLS2 := Lib.hid hls; have HGO := Lib.hid hgo; have HLEFT := Lib.hid hleft; have HLEN := Lib.hid hlen
    clear ho hlen hleft hgo hls HLS HL0 hls4
    have y8 := HD2.out.nd; have yz := HD2.out.fz
    clear y9
    go_upto_region 7 with fail
    generalize w.drewN nq = W1 at *
    go_loopw [5, 6, 7] (fun v5 v6 v7 wr => ∃ (m p n : Nat) (done : List Nat) (ar2 : Nat → Nat), v5 = .int .i64 ((m : Int) - 1) ∧ v6 = .int .i64 (p : Int) ∧ v7 = .int .u64 (n : Int) ∧ m ≤ s.ds.length ∧ Hid (p = m + E ∧ done.length + m = s.ds.length) ∧ n ≤ 2 ^ k ∧ Hid (done ++ mulGo k n (s.ds.take m).reverse = o.reverse) ∧ Hid (DArr wr b ar2 (s.ds.length : Int) s.dp ∧ (∀ i, i < m → ar2 i = arr i) ∧ ∀ i, i < 800 → p ≤ i → i < l → ar2 i = 48 + o.getD i 0) ∧ Hid (DK b w wr)) (fun v5 _ _ _ => (intOf v5 + 1).toNat)
    case atStart =>
      have hE := HE.out
      exact ⟨s.ds.length, s.ds.length + E, 0, [], arr, rfl, by go_num, rfl, Nat.le_refl _, Lib.hid ⟨rfl, by simp⟩, Nat.zero_le _, Lib.hid (by rw [List.take_length, List.nil_append]; exact HGO.out), Lib.hid ⟨HD2.out, fun _ _ => rfl, fun i _ h1 h2 => by omega⟩, HDK⟩
    case round =>
      obtain ⟨m, p, n, done, ar2, hv5, rfl, rfl, hm, hpm, hn, hgo, hda, hdk⟩ := hrel
      have y8 := hda.out.1.nd; have yz := hda.out.1.fz
      by_cases hm0 : m = 0
      · subst hm0
        subst hv5
        clear hm
        obtain ⟨hp1, hp2⟩ := hpm.out
        have hgo2 := hgo.out
        rw [List.take_zero, List.reverse_nil, mulGo] at hgo2
        have h20 : n < 10 ^ 20 := by have : (1152921504606846976 : Nat) < 10 ^ 20 := by decide
                                     omega
        have HGO2 := Lib.hid hgo2; have HPM := Lib.hid (show p + done.length = l by have := HE.out; omega); have H20 := Lib.hid h20
        clear hgo2 hgo hpm hp1 hp2 h20
        go_upto_region 18 with fail
        clear y8 yz
        go_loopg [6, 7] 20 (fun g v6 v7 wr => ∃ (n p : Nat) (done : List Nat) (ar2 : Nat → Nat), v6 = .int .i64 (p : Int) ∧ v7 = .int .u64 (n : Int) ∧ n ≤ 1152921504606846976 ∧ Hid (n < 10 ^ g) ∧ Hid (p + done.length = l) ∧ p ≤ 900 ∧ Hid (done ++ mulTail g n = o.reverse) ∧ Hid (DArr wr b ar2 (s.ds.length : Int) s.dp ∧ ∀ i, i < 800 → p ≤ i → i < l → ar2 i = 48 + o.getD i 0) ∧ Hid (DK b w wr))
        case atStart => exact ⟨n, p, done, ar2, rfl, rfl, by omega, H20, HPM, by have := HPM.out; have := HE.out; omega, HGO2, Lib.hid ⟨hda.out.1, hda.out.2.2⟩, hdk⟩
        case round =>
          obtain ⟨n, p, done, ar2, rfl, rfl, hnb, hn, hpd, hp9, hgo, hda, hdk⟩ := hrel
          have y8 := hda.out.1.nd; have y9 := hda.out.1.dp; have yz := hda.out.1.fz
          by_cases hn0 : n = 0
          · have i0 : ¬ (0 : Int) < (n : Int) := by omega
            have hfin : done.length = l ∧ p = 0 := by
              have h := hgo.out
              have hz : mulTail gk n = [] := by rw [hn0]; cases gk <;> simp [mulTail]
              rw [hz, List.append_nil] at h
              have h2 := congrArg List.length h
              rw [List.length_reverse, HLEN.out] at h2
              have := hpd.out
              omega
            obtain ⟨_, rfl⟩ := hfin
            obtain ⟨f1, f2, f3, f4⟩ := HLS2.out
            have hE := HE.out
            have hlen := HLEN.out
            have hht : Hd (o.take 800) := by
              obtain ⟨d, t, e, h0⟩ := f2
              exact ⟨d, t.take 799, by rw [e]; rfl, h0⟩
            have htl : (o.take 800).length = min 800 l := by rw [List.length_take, hlen]
            have hlies : Lies ar2 (o.take 800) := fun i hi => by
              rw [htl] at hi
              rw [hda.out.2 i (by omega) (Nat.zero_le _) (by omega), List.getD_eq_getElem?_getD, List.getElem?_eq_getElem (by omega), List.getElem_take]
              rfl
            have htr := fun W dp (hW : DArr W b ar2 ((o.take 800).length : Int) dp) => trim_any b ar2 (o.take 800) dp W hW hlies (by rw [htl]; omega) (fun d hd => f1 d (List.mem_of_mem_take hd))
            have htr2 : ∀ W dp, DArr W b ar2 ((o.take 800).length : Int) dp → Calls Tryz.prog 175 #[.pointer (some ⟨b, 0, none⟩)] W fun e w' => e = .returned (.tuple #[]) ∧ DAt w' b (trimZ (o.take 800)) dp ∧ DK b W w' := fun W dp hW => by
              have := htr W dp hW
              rw [trimDp_hd hht] at this
              exact this
            rw [htl] at htr2
            have hleft := HLEFT.out
            rw [show s.dp + ((l : Int) - (s.ds.length : Int)) = s.dp + (E : Int) by omega] at hleft
            have HTR := Lib.hid htr2; have HLF := Lib.hid hleft
            have j5 : wrap64 (s.dp + (E : Int)) = s.dp + (E : Int) := w64_in (by omega) (by omega)
            have hA := hda.out.1.setNd ((s.ds.length : Int) + (E : Int))
            by_cases h800 : l < 800
            · have j6 : ¬ (800 : Int) ≤ (s.ds.length : Int) + (E : Int) := by omega
              have hB := hA.setDp (s.dp + (E : Int))
              have hmin : ((min 800 l : Nat) : Int) = (s.ds.length : Int) + (E : Int) := by omega
              rw [hmin] at HTR
              have HB := Lib.hid hB
              clear htl hlies htr htr2 hleft hA hmin hE hlen hB hht hgo hn hpd f1 f2 f3 f4
              go_wp2_with (first | (go_at_call 175; refine (HTR.out _ _ HB.out).mono ?_; rintro e w9 ⟨rfl, h9, k9⟩) | fail)
              go_end0
              refine ⟨rfl, ?_, hdk.out.trans ((dk_set _ _ _ _).trans ((dk_set _ _ _ _).trans k9))⟩
              rw [HLF.out]
              exact h9
            · have j6 : (800 : Int) ≤ (s.ds.length : Int) + (E : Int) := by omega
              have hB := (hA.setNd 800).setDp (s.dp + (E : Int))
              have hmin : ((min 800 l : Nat) : Int) = 800 := by omega
              rw [hmin] at HTR
              have HB := Lib.hid hB
              clear htl hlies htr htr2 hleft hA hmin hE hlen hB hht hgo hn hpd f1 f2 f3 f4
              go_wp2_with (first | (go_at_call 175; refine (HTR.out _ _ HB.out).mono ?_; rintro e w9 ⟨rfl, h9, k9⟩) | fail)
              go_end0
              refine ⟨rfl, ?_, hdk.out.trans ((dk_set _ _ _ _).trans ((dk_set _ _ _ _).trans ((dk_set _ _ _ _).trans k9)))⟩
              rw [HLF.out]
              exact h9
          · have i0 : (0 : Int) < (n : Int) := by omega
            obtain ⟨g3, rfl⟩ : ∃ g3, gk = g3 + 1 := ⟨gk - 1, by
              rcases Nat.eq_zero_or_pos gk with g | g
              · have := hn.out; rw [g] at this; simp at this; omega
              · omega⟩
            have hgo2 := hgo.out
            rw [mulTail, if_neg hn0] at hgo2
            have hlt : n / 10 < 10 ^ g3 := by have := hn.out; rw [Nat.pow_succ] at this; omega
            have e1 : (n : Int) / 10 = ((n / 10 : Nat) : Int) := by omega
            have e2 : (n : Int) - 10 * ((n / 10 : Nat) : Int) = ((n % 10 : Nat) : Int) := by omega
            have hR9 : n % 10 ≤ 9 := by omega
            have hQb : n / 10 ≤ 1152921504606846976 := by omega
            generalize n / 10 = Q at *
            generalize n % 10 = Rm at *
            have hlr := congrArg List.length hgo2
            rw [List.length_append, List.length_cons, List.length_reverse, HLEN.out] at hlr
            have hp1 : 1 ≤ p := by have := hpd.out; omega
            obtain ⟨p, rfl⟩ : ∃ q, p = q + 1 := ⟨p - 1, by omega⟩
            have hoat : o.getD p 0 = Rm := by
              have h3 := congrArg List.reverse hgo2
              rw [List.reverse_reverse] at h3
              have h4 := rev_at done (mulTail g3 Q) Rm
              rw [h3] at h4
              rw [show p = (mulTail g3 Q).length by have := hpd.out; omega]
              exact h4
            have HGO2 := Lib.hid hgo2; have HLT := Lib.hid hlt; have HOAT := Lib.hid hoat
            clear hgo2 hlt hoat hlr hgo hn hp1
            obtain ⟨tr0, y3⟩ := hda.out.1.tr
            by_cases hp8 : p < 800
            · have j1 : (p : Int) < 800 := by omega
              have j2 : (0 : Int) ≤ (p : Int) := by omega
              have yp := hda.out.1.d p hp8
              go_wp2_with fail
              have hv : (Rm : Int) + 48 = ((48 + Rm : Nat) : Int) := by push_cast; omega
              rw [hv]
              go_roundg g3
              case measure => omega
              case rel =>
                refine ⟨Q, p, done ++ [Rm], upd ar2 p (48 + Rm), by go_num, rfl, hQb, HLT, Lib.hid (by have := hpd.out; simp; omega), by omega, Lib.hid (by rw [List.append_assoc]; exact HGO2.out), Lib.hid ⟨hda.out.1.setD p (48 + Rm) hp8, fun i h0 h1 h2 => ?_⟩, Lib.hid (hdk.out.trans (dk_set _ _ _ _))⟩
                unfold upd
                by_cases he : i = p
                · rw [if_pos he, he, HOAT.out]
                · rw [if_neg he]; exact hda.out.2 i h0 (by omega) h2
            · have j1 : ¬ (p : Int) < 800 := by omega
              by_cases hr0 : Rm = 0
              · have j3 : ((Rm : Int) != 0) = false := by rw [hr0]; rfl
                go_wp2_with fail
                go_roundg g3
                case measure => omega
                case rel => exact ⟨Q, p, done ++ [Rm], ar2, by go_num, rfl, hQb, HLT, Lib.hid (by have := hpd.out; simp; omega), by omega, Lib.hid (by rw [List.append_assoc]; exact HGO2.out), Lib.hid ⟨hda.out.1, fun i h0 h1 h2 => hda.out.2 i h0 (by omega) h2⟩, hdk⟩
              · have j3 : ((Rm : Int) != 0) = true := by rw [bne_iff_ne]; omega
                go_wp2_with fail
                go_roundg g3
                case measure => omega
                case rel => exact ⟨Q, p, done ++ [Rm], ar2, by go_num, rfl, hQb, HLT, Lib.hid (by have := hpd.out; simp; omega), by omega, Lib.hid (by rw [List.append_assoc]; exact HGO2.out), Lib.hid ⟨hda.out.1.setTr true, fun i h0 h1 h2 => hda.out.2 i h0 (by omega) h2⟩, Lib.hid (hdk.out.trans (dk_set _ _ _ _))⟩
      · obtain ⟨m, rfl⟩ : ∃ q, m = q + 1 := ⟨m - 1, by omega⟩
        rw [show ((m + 1 : Nat) : Int) - 1 = (m : Int) by omega] at hv5
        subst hv5
        have hml : m < s.ds.length := by omega
        have k0 : (0 : Int) ≤ (m : Int) := by omega
        have k1 : (m : Int) < 800 := by omega
        have ym := hda.out.1.d m (by omega)
        rw [hda.out.2.1 m (by omega), HL.out m hml] at ym
        have hd9 := HOK.out.dg s.ds[m] (List.getElem_mem hml)
        have htk := List.take_succ_eq_append_getElem hml
        have hgo2 := hgo.out
        rw [htk, List.reverse_append, List.reverse_singleton, List.singleton_append, mulGo] at hgo2
        generalize s.ds[m]'hml = d at *
        have hV9 : d * 2 ^ k ≤ 9 * 2 ^ k := Nat.mul_le_mul_right _ hd9
        have hVc := shl_cast d k
        generalize d * 2 ^ k = V at *
        have u1 : IntKind.u64.wrap ((V : Int)) = (V : Int) := u64_in (by omega) (by omega)
        have u2 : IntKind.u64.wrap ((d : Int) * 2 ^ k) = (V : Int) := by rw [hVc, u1]
        have u3 : IntKind.u64.wrap ((48 + (d : Int) - 48) * 2 ^ k) = (V : Int) := by rw [show 48 + (d : Int) - 48 = (d : Int) by omega, u2]
        clear u2
        have e1 : ((n : Int) + (V : Int)) / 10 = (((n + V) / 10 : Nat) : Int) := by omega
        have e2 : (n : Int) + (V : Int) - 10 * (((n + V) / 10 : Nat) : Int) = (((n + V) % 10 : Nat) : Int) := by omega
        have hR9 : (n + V) % 10 ≤ 9 := by omega
        have hQb : (n + V) / 10 ≤ 2 ^ k := by omega
        have hQB : (n + V) / 10 * 10 ≤ n + V := by omega
        generalize hQ : (n + V) / 10 = Q at *
        generalize hRm : (n + V) % 10 = Rm at *
        clear hQ hRm
        have hlr := congrArg List.length hgo2
        rw [List.length_append, List.length_cons, List.length_reverse, HLEN.out] at hlr
        obtain ⟨hp1, hp2⟩ := hpm.out
        obtain ⟨p, rfl⟩ : ∃ q, p = q + 1 := ⟨p - 1, by omega⟩
        have hoat : o.getD p 0 = Rm := by
          have h3 := congrArg List.reverse hgo2
          rw [List.reverse_reverse] at h3
          have h4 := rev_at done (mulGo k Q (s.ds.take m).reverse) Rm
          rw [h3] at h4
          rw [show p = (mulGo k Q (s.ds.take m).reverse).length by have := HE.out; omega]
          exact h4
        have HGO2 := Lib.hid hgo2; have HOAT := Lib.hid hoat; have HPM := Lib.hid (show p = m + E ∧ done.length + 1 + m = s.ds.length by omega)
        have hp9 : p ≤ 900 := by omega
        clear hgo2 hoat hlr hgo htk hp1 hp2 hpm hVc u1
        obtain ⟨tr0, y3⟩ := hda.out.1.tr
        by_cases hp8 : p < 800
        · have j1 : (p : Int) < 800 := by omega
          have j2 : (0 : Int) ≤ (p : Int) := by omega
          have yp := hda.out.1.d p hp8
          go_wp2_with fail
          have hv : (Rm : Int) + 48 = ((48 + Rm : Nat) : Int) := by push_cast; omega
          rw [hv]
          refine ⟨⟨m, p, Q, done ++ [Rm], upd ar2 p (48 + Rm), rfl, rfl, by rw [e1], by omega, Lib.hid (by have := HPM.out; simp; omega), hQb, Lib.hid (by rw [List.append_assoc]; exact HGO2.out), Lib.hid ⟨hda.out.1.setD p (48 + Rm) hp8, fun i hi => ?_, fun i h0 h1 h2 => ?_⟩, Lib.hid (hdk.out.trans (dk_set _ _ _ _))⟩, by simp [intOf]⟩
          · unfold upd
            rw [if_neg (by have := HPM.out; omega)]
            exact hda.out.2.1 i (by omega)
          · unfold upd
            by_cases he : i = p
            · rw [if_pos he, he, HOAT.out]
            · rw [if_neg he]; exact hda.out.2.2 i h0 (by omega) h2
        · have j1 : ¬ (p : Int) < 800 := by omega
          by_cases hr0 : Rm = 0
          · have j3 : ((Rm : Int) != 0) = false := by rw [hr0]; rfl
            go_wp2_with fail
            exact ⟨⟨m, p, Q, done ++ [Rm], ar2, rfl, rfl, by rw [e1], by omega, Lib.hid (by have := HPM.out; simp; omega), hQb, Lib.hid (by rw [List.append_assoc]; exact HGO2.out), Lib.hid ⟨hda.out.1, fun i hi => hda.out.2.1 i (by omega), fun i h0 h1 h2 => hda.out.2.2 i h0 (by omega) h2⟩, hdk⟩, by simp [intOf]⟩
          · have j3 : ((Rm : Int) != 0) = true := by rw [bne_iff_ne]; omega
            go_wp2_with fail
            exact ⟨⟨m, p, Q, done ++ [Rm], ar2, rfl, rfl, by rw [e1], by omega, Lib.hid (by have := HPM.out; simp; omega), hQb, Lib.hid (by rw [List.append_assoc]; exact HGO2.out), Lib.hid ⟨hda.out.1.setTr true, fun i hi => hda.out.2.1 i (by omega), fun i h0 h1 h2 => hda.out.2.2 i h0 (by omega) h2⟩, Lib.hid (hdk.out.trans (dk_set _ _ _ _))⟩, by simp [intOf]⟩
end Go.Proofs.YtnccpddjdgndcaaGreatDoor.Dc
end

section
/- PLAIN: the shifts of a decimal halve it; how far they move the point. No program in sight. -/
namespace Go.Proofs.YtnccpddjdgndcaaGreatDoor.Dc
theorem right_half (k : Nat) (s : DS) (h : Ok s) (hk : 1 ≤ k) (hp : 0 < s.dp) : 2 * fl (right k s).ds (right k s).dp ≤ fl s.ds s.dp := by
 have h1 := fl_pos h hp
 obtain ⟨n, r, rest, e1, _, _, _, f1, f2, f3, f4⟩ := right_spec k s h
 unfold right
 rw [e1]
 simp only
 rw [fl_trim]
 refine Nat.le_trans (Nat.mul_le_mul_left 2 (fl_take _ _ _)) ?_
 generalize divGo k n rest = o at *
 have hvl := val_lt o f1
 have p10 : ∀ m : Nat, 0 < 10 ^ m := fun m => Nat.pow_pos (by decide)
 by_cases hd : 0 ≤ s.dp - ((r : Int) - 1)
 ·obtain ⟨m, hm⟩ : ∃ m : Nat, s.dp - ((r : Int) - 1) = m := ⟨(s.dp - ((r : Int) - 1)).toNat, by omega⟩
  obtain ⟨q, hq⟩ : ∃ q : Nat, s.dp = q := ⟨s.dp.toNat, by omega⟩
  have hmq : m + r = q + 1 := by omega
  unfold fl at h1 ⊢
  have hq2 : s.dp.toNat = q := by omega
  have hm2 : (s.dp - ((r : Int) - 1)).toNat = m := by omega
  rw [hq2] at h1 ⊢
  rw [hm2]
  have a1 := Nat.div_mul_le_self (val o * 10 ^ m) (10 ^ o.length)
  generalize hx : val o * 10 ^ m / 10 ^ o.length = X at *
  have key : 2 * X ≤ val s.ds * 10 ^ q / 10 ^ s.ds.length := by
   rw [Nat.le_div_iff_mul_le (p10 _)]
   refine Nat.le_of_mul_le_mul_right (c := 10 ^ o.length * 10) ?_ (Nat.mul_pos (p10 _) (by decide))
   have h2k : 2 ≤ 2 ^ k := by
    calc 2 = 2 ^ 1 := rfl
     _ ≤ 2 ^ k := Nat.pow_le_pow_right (by decide) hk
   calc 2 * X * 10 ^ s.ds.length * (10 ^ o.length * 10)
     = 2 * (X * 10 ^ o.length) * 10 ^ s.ds.length * 10 := by generalize 10 ^ s.ds.length = P; generalize 10 ^ o.length = Q; simp only [Nat.mul_assoc]; congr 2; rw [Nat.mul_left_comm]
    _ ≤ 2 ^ k * (X * 10 ^ o.length) * 10 ^ s.ds.length * 10 := Nat.mul_le_mul_right _ (Nat.mul_le_mul_right _ (Nat.mul_le_mul_right _ h2k))
    _ ≤ 2 ^ k * (val o * 10 ^ m) * 10 ^ s.ds.length * 10 := Nat.mul_le_mul_right _ (Nat.mul_le_mul_right _ (Nat.mul_le_mul_left _ a1))
    _ = val o * 2 ^ k * 10 ^ s.ds.length * 10 * 10 ^ m := by generalize val o = V; generalize 10 ^ s.ds.length = P; generalize 10 ^ m = Q; simp only [Nat.mul_comm, Nat.mul_left_comm, Nat.mul_assoc]
    _ = val s.ds * (10 ^ (r + o.length) * 10 ^ m) := by rw [f4, Nat.mul_assoc]
    _ = val s.ds * (10 ^ q * (10 ^ o.length * 10)) := by
     congr 1
     rw [← Nat.pow_add, show (10 : Nat) ^ o.length * 10 = 10 ^ (o.length + 1) from rfl, ← Nat.pow_add]
     congr 1
     omega
    _ = val s.ds * 10 ^ q * (10 ^ o.length * 10) := by rw [Nat.mul_assoc]
  exact key
 ·have hz : (s.dp - ((r : Int) - 1)).toNat = 0 := by omega
  have : fl o (s.dp - ((r : Int) - 1)) = 0 := by
   unfold fl
   rw [hz, Nat.pow_zero, Nat.mul_one]
   exact Nat.div_eq_of_lt hvl
  omega
theorem left_half (k : Nat) (hk1 : 2 ≤ k) (hk : k ≤ 60) (s : DS) (h : Ok s) (hh : Half s) : 2 * iv (left k s).ds (left k s).dp ≤ iv s.ds s.dp := by
 have h2 := iv_two h hh
 have hdp : s.dp ≤ 0 := by rcases hh with g | ⟨g, _⟩ <;> omega
 obtain ⟨f1, f2, f3, f4⟩ := left_spec k hk s h
 unfold left
 simp only
 rw [iv_trim]
 have hlen : ((mulGo k 0 s.ds.reverse).reverse).length = (mulGo k 0 s.ds.reverse).length := List.length_reverse
 rw [← hlen] at f4
 generalize (mulGo k 0 s.ds.reverse).reverse = o at *
 have vpos : 0 < val s.ds := Nat.lt_of_lt_of_le (Nat.pow_pos (by decide)) (val_ge h.hd)
 unfold iv
 by_cases hp : 0 < s.dp + ((o.length : Int) - (s.ds.length : Int))
 ·rw [if_pos hp]
  unfold iv at h2
  omega
 rw [if_neg hp]
 unfold iv at h2
 rw [if_neg (by omega)] at h2 ⊢
 have hsplit := (List.take_append_drop 800 o).symm
 have hvo : val o = val (o.take 800) * 10 ^ (o.drop 800).length + val (o.drop 800) := by
  conv => lhs; rw [hsplit]
  exact val_append _ _
 have hgd : val (o.drop 800) < 10 ^ (o.drop 800).length := val_lt _ fun d hd => f1 d (List.mem_of_mem_drop hd)
 have hht : Hd (o.take 800) := by
  obtain ⟨d, r, e, h0⟩ := f2
  exact ⟨d, r.take 799, by rw [e]; rfl, h0⟩
 have vtg := val_ge hht
 have key : 10 * val o ≤ 11 * (val (o.take 800) * 10 ^ (o.drop 800).length) := by
  by_cases hm : (o.drop 800).length = 0
  ·rw [hm] at hvo hgd ⊢
   simp only [Nat.pow_zero, Nat.mul_one] at hvo hgd ⊢
   omega
  ·have hl8 : (o.take 800).length = 800 := by
    rw [List.length_take]; rw [List.length_drop] at hm; omega
   rw [hl8] at vtg
   have h10 : 10 ≤ val (o.take 800) := Nat.le_trans (by decide +kernel) vtg
   have : 10 * 10 ^ (o.drop 800).length ≤ val (o.take 800) * 10 ^ (o.drop 800).length := Nat.mul_le_mul_right _ h10
   omega
 have hexp : (o.take 800).length + (-(s.dp + ((o.length : Int) - (s.ds.length : Int)))).toNat + (o.drop 800).length = s.ds.length + (-s.dp).toNat := by
  have := congrArg List.length hsplit
  rw [List.length_append] at this
  omega
 have hpw : 10 ^ (s.ds.length + (-s.dp).toNat) = 10 ^ ((o.take 800).length + (-(s.dp + ((o.length : Int) - (s.ds.length : Int)))).toNat) * 10 ^ (o.drop 800).length := by rw [← hexp, Nat.pow_add]
 rw [hpw] at h2 ⊢
 generalize 10 ^ ((o.take 800).length + (-(s.dp + ((o.length : Int) - (s.ds.length : Int)))).toNat) = Y at *
 rw [f3] at key
 generalize val (o.take 800) = T at *
 generalize 10 ^ (o.drop 800).length = M at *
 generalize val s.ds = D at *
 have h2k : 4 ≤ 2 ^ k := by
  calc 4 = 2 ^ 2 := rfl
   _ ≤ 2 ^ k := Nat.pow_le_pow_right (by decide) hk1
 have hD : D * 4 ≤ D * 2 ^ k := Nat.mul_le_mul_left _ h2k
 have a1 := Nat.div_mul_le_self Y T
 have a2 : Y * M < (Y * M / D + 1) * D := by
  have := Nat.lt_mul_div_succ (Y * M) vpos
  rw [Nat.mul_comm D] at this
  exact this
 generalize Y / T = A at *
 generalize Y * M / D = B at *
 have b1 : A * T * M ≤ Y * M := Nat.mul_le_mul_right _ a1
 have b2 : A * (40 * D) ≤ A * (11 * (T * M)) := Nat.mul_le_mul_left _ (by omega)
 have b3 : A * (11 * (T * M)) = 11 * (A * T * M) := by rw [Nat.mul_left_comm, Nat.mul_assoc]
 have b4 : A * 40 * D < (11 * (B + 1)) * D := by
  calc A * 40 * D = A * (40 * D) := Nat.mul_assoc _ _ _
   _ ≤ 11 * (A * T * M) := by rw [← b3]; exact b2
   _ ≤ 11 * (Y * M) := Nat.mul_le_mul_left _ b1
   _ < 11 * ((B + 1) * D) := Nat.mul_lt_mul_of_pos_left a2 (by decide)
   _ = _ := (Nat.mul_assoc _ _ _).symm
 have b5 := Nat.lt_of_mul_lt_mul_right b4
 omega
theorem right_dp (k : Nat) (s : DS) (h : Ok s) (hk1 : 1 ≤ k) (hk : k ≤ 60) : s.dp - 19 ≤ (right k s).dp ∧ (right k s).dp ≤ s.dp := by
 obtain ⟨n, r, rest, e1, _, _, _, f1, f2, f3, f4⟩ := right_spec k s h
 have hdp : (right k s).dp = s.dp - ((r : Int) - 1) := by unfold right; rw [e1]
 rw [hdp]
 generalize divGo k n rest = o at *
 have p10 : ∀ m : Nat, 0 < 10 ^ m := fun m => Nat.pow_pos (by decide)
 have v1 := val_lt o f1
 have v2 := val_ge f2
 have v3 := val_lt s.ds h.dg
 have v4 := val_ge h.hd
 have hl1 : 1 ≤ s.ds.length := by obtain ⟨d, t, e, _⟩ := h.hd; rw [e]; simp
 have k60 : 2 ^ k ≤ 2 ^ 60 := Nat.pow_le_pow_right (by decide) hk
 have k1 : 2 ≤ 2 ^ k := by
  calc 2 = 2 ^ 1 := rfl
   _ ≤ 2 ^ k := Nat.pow_le_pow_right (by decide) hk1
 have up : r ≤ 20 := by
  refine Nat.le_of_lt_succ (Nat.lt_of_not_le fun hr => ?_)
  have c1 : 10 ^ (s.ds.length - 1) * 10 ^ (21 + o.length) ≤ val s.ds * 10 ^ (r + o.length) := Nat.mul_le_mul v4 (Nat.pow_le_pow_right (by decide) (by omega))
  have c2 : val o * 2 ^ k * 10 ^ s.ds.length * 10 ≤ 10 ^ o.length * 2 ^ 60 * 10 ^ s.ds.length * 10 := Nat.mul_le_mul_right _ (Nat.mul_le_mul_right _ (Nat.mul_le_mul (Nat.le_of_lt v1) k60))
  rw [← f4] at c1
  have c3 := Nat.le_trans c1 c2
  have c4 : 10 ^ (s.ds.length - 1) * 10 ^ (21 + o.length) = 10 ^ o.length * 10 ^ s.ds.length * 10 ^ 20 := by
   rw [← Nat.pow_add, ← Nat.pow_add, ← Nat.pow_add]; congr 1; omega
  have c5 : 10 ^ o.length * 2 ^ 60 * 10 ^ s.ds.length * 10 = 10 ^ o.length * 10 ^ s.ds.length * (2 ^ 60 * 10) := by
   generalize (2 : Nat) ^ 60 = T
   rw [Nat.mul_right_comm (10 ^ o.length) T, Nat.mul_assoc _ T 10]
  rw [c4, c5] at c3
  have c6 := Nat.le_of_mul_le_mul_left c3 (Nat.mul_pos (p10 _) (p10 _))
  exact absurd c6 (by decide)
 have low : 1 ≤ r := by
  refine Nat.lt_of_not_le fun hr => ?_
  have hr0 : r = 0 := by omega
  subst hr0
  rw [Nat.zero_add] at f4
  have c1 : val s.ds * 10 ^ o.length < 10 ^ s.ds.length * 10 ^ o.length := Nat.mul_lt_mul_of_pos_right v3 (p10 _)
  have c2 : 10 ^ (o.length - 1) * 2 * 10 ^ s.ds.length * 10 ≤ val o * 2 ^ k * 10 ^ s.ds.length * 10 := Nat.mul_le_mul_right _ (Nat.mul_le_mul_right _ (Nat.mul_le_mul v2 k1))
  have c3 : 10 ^ (o.length - 1) * 2 * 10 ^ s.ds.length * 10 = 10 ^ s.ds.length * (10 ^ (o.length - 1) * 10) * 2 := by
   generalize 10 ^ (o.length - 1) = A
   generalize 10 ^ s.ds.length = B
   simp only [Nat.mul_comm, Nat.mul_left_comm, Nat.mul_assoc]
  have c4 : 10 ^ (o.length - 1) * 10 = 10 ^ o.length := by rw [← Nat.pow_succ]; congr 1; omega
  rw [c3, c4] at c2
  rw [f4] at c2
  generalize 10 ^ s.ds.length * 10 ^ o.length = Z at *
  omega
 omega
theorem left_dp (k : Nat) (s : DS) (h : Ok s) (hk : k ≤ 60) : s.dp ≤ (left k s).dp ∧ (left k s).dp ≤ s.dp + 19 := by
 obtain ⟨f1, f2, f3, f4⟩ := left_spec k hk s h
 have hlen : ((mulGo k 0 s.ds.reverse).reverse).length = (mulGo k 0 s.ds.reverse).length := List.length_reverse
 rw [← hlen] at f4
 have hdp : (left k s).dp = s.dp + ((((mulGo k 0 s.ds.reverse).reverse).length : Int) - (s.ds.length : Int)) := rfl
 rw [hdp]
 generalize (mulGo k 0 s.ds.reverse).reverse = o at *
 have p10 : ∀ m : Nat, 0 < 10 ^ m := fun m => Nat.pow_pos (by decide)
 have v2 := val_ge f2
 have v3 := val_lt s.ds h.dg
 have k60 : 2 ^ k ≤ 2 ^ 60 := Nat.pow_le_pow_right (by decide) hk
 have up : o.length ≤ s.ds.length + 19 := by
  refine Nat.le_of_lt_succ (Nat.lt_of_not_le fun hr => ?_)
  have c1 : 10 ^ (s.ds.length + 19) ≤ val o := Nat.le_trans (Nat.pow_le_pow_right (by decide) (by omega)) v2
  have c2 : val s.ds * 2 ^ k ≤ 10 ^ s.ds.length * 2 ^ 60 := Nat.mul_le_mul (Nat.le_of_lt v3) k60
  rw [f3] at c1
  have c3 := Nat.le_trans c1 c2
  rw [Nat.pow_add] at c3
  have c4 := Nat.le_of_mul_le_mul_left c3 (p10 _)
  exact absurd c4 (by decide)
 omega
theorem fl_le (s : DS) (h : Ok s) (m : Nat) (hp : s.dp ≤ (m : Int)) : fl s.ds s.dp ≤ 10 ^ m := by
 unfold fl
 have v := val_lt s.ds h.dg
 refine Nat.div_le_of_le_mul ?_
 exact Nat.mul_le_mul (Nat.le_of_lt v) (Nat.pow_le_pow_right (by decide) (by omega))
theorem iv_le (s : DS) (h : Ok s) (m : Nat) (hp : -(m : Int) ≤ s.dp) : iv s.ds s.dp ≤ 10 ^ (m + 1) := by
 unfold iv
 have v := val_ge h.hd
 have hl1 : 1 ≤ s.ds.length := by obtain ⟨d, t, e, _⟩ := h.hd; rw [e]; simp
 split
 ·exact Nat.zero_le _
 ·refine Nat.div_le_of_le_mul ?_
  calc 10 ^ (s.ds.length + (-s.dp).toNat) ≤ 10 ^ (s.ds.length - 1 + (m + 1)) := Nat.pow_le_pow_right (by decide) (by omega)
   _ = 10 ^ (s.ds.length - 1) * 10 ^ (m + 1) := Nat.pow_add ..
   _ ≤ _ := Nat.mul_le_mul_right _ v
end Go.Proofs.YtnccpddjdgndcaaGreatDoor.Dc
end

section
/- THE WALK OF (*decimal).Shift, to the left by at most 60, to the right by any count. -/
namespace Go.Proofs.YtnccpddjdgndcaaGreatDoor.Dc
open Go.RowKit
theorem DAt.ndOf {W : World} {b : Nat} {ds : List Nat} {dp : Int} (h : DAt W b ds dp) : W.cell? ⟨b, 800, none⟩ = some (.int .i64 (ds.length : Int)) := by
 obtain ⟨_, hD, _, _⟩ := h
 exact hD.nd
set_option maxRecDepth 20000 in
set_option maxHeartbeats 2000000 in
theorem shift_left (b k : Nat) (s : DS) (w : World) (hd : DAt w b s.ds s.dp) (hok : Ok s) (h1 : 1 ≤ k) (hk : k ≤ 60) (hdp : -100000 ≤ s.dp ∧ s.dp ≤ 100000) (hLc : LcT w) :
  Calls Tryz.prog 131 #[.pointer (some ⟨b, 0, none⟩), .int .i64 (k : Int)] w fun e w' => e = .returned (.tuple #[]) ∧ DAt w' b (left k s).ds (left k s).dp ∧ DK b w w' := by
 have hl := left_walk b k s w hd hok h1 hk hdp hLc
 have f0 := hd.ndOf
 have hl1 : 1 ≤ s.ds.length := by obtain ⟨d, t, e, _⟩ := hok.hd; rw [e]; simp
 have n0 : ¬ (s.ds.length : Int) = 0 := by omega
 have n1 : ((s.ds.length : Int) == 0) = false := by simpa using n0
 have c1 : (0 : Int) < (k : Int) := by omega
 have c2 : ¬ (60 : Int) < (k : Int) := by omega
 have c3 : IntKind.u64.wrap (k : Int) = (k : Int) := u64_in (by omega) (by omega)
 have HL := Lib.hid hl
 clear hl hd hok hLc
 go_enter Tryz.func131, Tryz.ntmps131
 go_wp2_with fail
 go_loopw [1] (fun v1 wr => v1 = .int .i64 (k : Int) ∧ w = wr) (fun _ _ => 0)
 case atStart => exact ⟨rfl, rfl⟩
 case round =>
  obtain ⟨rfl, rfl⟩ := hrel
  go_wp2_with (first | (go_at_call 176; (refine (HL.out).mono ?_); rintro e w1 ⟨rfl, hd1, hk1⟩) | fail)
  go_end0
  exact ⟨rfl, hd1, hk1⟩
set_option maxRecDepth 20000 in
set_option maxHeartbeats 2000000 in
theorem shift_right (b n : Nat) (s : DS) (w : World) (hd : DAt w b s.ds s.dp) (hok : Ok s) (h1 : 1 ≤ n) (hn : n ≤ 40000) (hdp : -1000 ≤ s.dp ∧ s.dp ≤ 1000) :
  Calls Tryz.prog 131 #[.pointer (some ⟨b, 0, none⟩), .int .i64 (-(n : Int))] w fun e w' => e = .returned (.tuple #[]) ∧ (∃ s2 : DS, DAt w' b s2.ds s2.dp ∧ Ok s2 ∧ (n ≤ 60 → s2 = right n s) ∧ s.dp - (n : Int) - 19 ≤ s2.dp ∧ s2.dp ≤ s.dp) ∧ DK b w w' := by
 have hr := fun (k : Nat) (s3 : DS) (W : World) (hd3 : DAt W b s3.ds s3.dp) (ho3 : Ok s3) (h13 : 1 ≤ k) (hk3 : k ≤ 60) (hdp3 : -100000 ≤ s3.dp ∧ s3.dp ≤ 100000) => right_walk b k s3 W hd3 ho3 h13 hk3 hdp3
 have f0 := hd.ndOf
 have hl1 : 1 ≤ s.ds.length := by obtain ⟨d, t, e, _⟩ := hok.hd; rw [e]; simp
 have n0 : ¬ (s.ds.length : Int) = 0 := by omega
 have n1 : ((s.ds.length : Int) == 0) = false := by simpa using n0
 have c1 : ¬ (0 : Int) < -(n : Int) := by omega
 have c2 : -(n : Int) < 0 := by omega
 have HR := Lib.hid hr; have HD := Lib.hid hd; have HO := Lib.hid hok
 clear hr hd hok
 go_enter Tryz.func131, Tryz.ntmps131
 go_wp2_with fail
 go_loopw [1] (fun v1 wr => ∃ (m : Nat) (s3 : DS), v1 = .int .i64 (-(m : Int)) ∧ 1 ≤ m ∧ m ≤ n ∧ Hid (DAt wr b s3.ds s3.dp ∧ Ok s3 ∧ DK b w wr ∧ (n ≤ 60 → s3 = s ∧ m = n)) ∧ s.dp - ((n : Int) - (m : Int)) ≤ s3.dp ∧ s3.dp ≤ s.dp) (fun v1 _ => (-(intOf v1)).toNat)
 case atStart => exact ⟨n, s, rfl, h1, Nat.le_refl _, Lib.hid ⟨HD.out, HO.out, DK.refl _ _, fun _ => ⟨rfl, rfl⟩⟩, by omega, by omega⟩
 case round =>
  obtain ⟨m, s3, rfl, hm1, hmn, HS, hlo, hhi⟩ := hrel
  obtain ⟨hd3, ho3, hk3, he3⟩ := HS.out
  by_cases hlt : 60 < m
  ·have d1 : -(m : Int) < -60 := by omega
   have hcall := HR.out 60 s3 wr hd3 ho3 (by decide) (by decide) ⟨by omega, by omega⟩
   have hdp3 := right_dp 60 s3 ho3 (by decide) (by decide)
   have HC := Lib.hid hcall
   clear hd3 he3 hcall
   go_wp2_with (first | (go_at_call 177; (refine (HC.out).mono ?_); rintro e w1 ⟨rfl, hd1, hk1⟩) | fail)
   refine ⟨⟨m - 60, right 60 s3, by go_num, by omega, by omega, Lib.hid ⟨hd1, right_ok 60 s3 ho3, hk3.trans hk1, fun h => by omega⟩, by omega, by omega⟩, ?_⟩
   simp [intOf]; go_num
  ·have d1 : ¬ -(m : Int) < -60 := by omega
   have c3 : IntKind.u64.wrap (m : Int) = (m : Int) := u64_in (by omega) (by omega)
   have hcall := HR.out m s3 wr hd3 ho3 hm1 (by omega) ⟨by omega, by omega⟩
   have hdp3 := right_dp m s3 ho3 hm1 (by omega)
   have HC := Lib.hid hcall; have HE := Lib.hid he3
   clear hd3 he3 hcall
   go_wp2_with (first | (go_at_call 177; (refine (HC.out).mono ?_); rintro e w1 ⟨rfl, hd1, hk1⟩) | fail)
   go_end0
   refine ⟨rfl, ⟨right m s3, hd1, right_ok m s3 ho3, fun h => ?_, by omega, by omega⟩, hk3.trans hk1⟩
   obtain ⟨e1, e2⟩ := HE.out h
   rw [e1, e2]
end Go.Proofs.YtnccpddjdgndcaaGreatDoor.Dc
end

section
/- THE WALKS OF shouldRoundUp AND (*decimal).RoundedInteger: they answer, whatever it be. -/
namespace Go.Proofs.YtnccpddjdgndcaaGreatDoor.Dc
open Go.RowKit
theorem DAt.drewN {W : World} {b : Nat} {ds : List Nat} {dp : Int} (h : DAt W b ds dp) (n : Nat) : DAt (W.drewN n) b ds dp := by
 obtain ⟨arr, hD, hL, h8⟩ := h
 exact ⟨arr, hD.drewN n, hL, h8⟩
def AnsB (e : Ending) : Prop := ∃ t : Bool, e = .returned (.bool t)
def AnsU (e : Ending) : Prop := ∃ u : Int, e = .returned (.int .u64 u) ∧ 0 ≤ u ∧ u < 18446744073709551616
theorem wrap_u64_in (n : Int) : 0 ≤ IntKind.u64.wrap n ∧ IntKind.u64.wrap n < 18446744073709551616 := by rw [IntKind.wrap_u64]; omega
set_option maxRecDepth 20000 in
set_option maxHeartbeats 2000000 in
theorem round_any (b : Nat) (ds : List Nat) (dp n : Int) (w : World) (hd : DAt w b ds dp) (hg : Dg ds) :
  Calls Tryz.prog 178 #[.pointer (some ⟨b, 0, none⟩), .int .i64 n] w fun e w' => AnsB e ∧ w = w' := by
 obtain ⟨arr, hD, hL, h8⟩ := hd
 have f0 := hD.nd
 obtain ⟨tr, f1⟩ := hD.tr
 by_cases h0 : n < 0
 ·go_enter Tryz.func178, Tryz.ntmps178
  go_wp2_with fail
  go_ret
  exact ⟨⟨_, rfl⟩, rfl⟩
 by_cases h1 : (ds.length : Int) ≤ n
 ·go_enter Tryz.func178, Tryz.ntmps178
  go_wp2_with fail
  go_ret
  exact ⟨⟨_, rfl⟩, rfl⟩
 obtain ⟨m, rfl⟩ : ∃ m : Nat, n = (m : Int) := ⟨n.toNat, by omega⟩
 have hm : m < ds.length := by omega
 have i1 : (m : Int) < 800 := by omega
 have i0 : (0 : Int) ≤ (m : Int) := by omega
 have v := hD.d m (by omega)
 rw [hL m hm] at v
 have hxd := hg ds[m] (List.getElem_mem hm)
 generalize ds[m] = d at *
 by_cases hd5 : d = 5
 ·subst hd5
  have v' : w.cell? ⟨b, m, none⟩ = some (.int .u8 53) := v
  clear v
  by_cases hl : m + 1 = ds.length
  ·have e2 : (m : Int) + 1 = (ds.length : Int) := by omega
   have e1 : ((m : Int) + 1 == (ds.length : Int)) = true := by simpa using e2
   cases tr
   ·cases m with
    | zero =>
     have f3 : w.cell? ⟨b, 800, none⟩ = some (.int .i64 1) := by rw [f0, ← hl]; rfl
     clear f0 e1 e2 h0 h1
     go_enter Tryz.func178, Tryz.ntmps178
     go_wp2_with fail
     go_ret
     exact ⟨⟨_, rfl⟩, rfl⟩
    | succ q =>
     have v2 := hD.d q (by omega)
     rw [hL q (by omega)] at v2
     have hxq := hg ds[q] (List.getElem_mem (by omega))
     generalize ds[q] = d2 at *
     have g1 : (0 : Int) < ((q + 1 : Nat) : Int) := by omega
     have g2 : wrap64 (((q + 1 : Nat) : Int) - 1) = (q : Int) := w64_in (by omega) (by omega) |>.trans (by omega)
     have g3 : (q : Int) < 800 := by omega
     have g4 : (0 : Int) ≤ (q : Int) := by omega
     go_enter Tryz.func178, Tryz.ntmps178
     go_wp2_with fail
     go_ret
     exact ⟨⟨_, rfl⟩, rfl⟩
   ·go_enter Tryz.func178, Tryz.ntmps178
    go_wp2_with fail
    go_ret
    exact ⟨⟨_, rfl⟩, rfl⟩
  ·have e2 : ¬ (m : Int) + 1 = (ds.length : Int) := by omega
   have e1 : ((m : Int) + 1 == (ds.length : Int)) = false := by simpa using e2
   go_enter Tryz.func178, Tryz.ntmps178
   go_wp2_with fail
   go_ret
   exact ⟨⟨_, rfl⟩, rfl⟩
 ·have e2 : ¬ ((48 + d : Nat) : Int) = 53 := by omega
  have e1 : (((48 + d : Nat) : Int) == 53) = false := by simpa using e2
  go_enter Tryz.func178, Tryz.ntmps178
  go_wp2_with fail
  go_ret
  exact ⟨⟨_, rfl⟩, rfl⟩
set_option maxRecDepth 20000 in
set_option maxHeartbeats 2000000 in
theorem rint_any (b : Nat) (ds : List Nat) (dp : Int) (w : World) (hd : DAt w b ds dp) (hg : Dg ds) :
  Calls Tryz.prog 191 #[.pointer (some ⟨b, 0, none⟩)] w fun e w' => AnsU e ∧ w = w' := by
 have hro := fun (n : Int) => round_any b ds dp n w hd hg
 obtain ⟨arr, hD, hL, h8⟩ := hd
 have f0 := hD.nd
 have f1 := hD.dp
 by_cases h20 : 20 < dp
 ·go_enter Tryz.func191, Tryz.ntmps191
  go_wp2_with fail
  go_ret
  exact ⟨⟨_, rfl, by omega, by omega⟩, rfl⟩
 have HRO := Lib.hid hro; have HD := Lib.hid hD; have HL := Lib.hid hL; have HG := Lib.hid hg
 clear hro hD hL hg
 go_enter Tryz.func191, Tryz.ntmps191
 go_wp2_with fail
 go_loopw [3, 4] (fun v3 v4 wr => (∃ (i : Nat) (x : Int), v3 = .int .i64 (i : Int) ∧ v4 = .int .u64 x ∧ 0 ≤ x ∧ x < 18446744073709551616 ∧ i ≤ ds.length ∧ i ≤ 20) ∧ w = wr) (fun v3 _ _ => 20 - (intOf v3).toNat)
 case atStart => exact ⟨⟨0, 0, rfl, rfl, by omega, by omega, by omega, by omega⟩, rfl⟩
 case round =>
  obtain ⟨⟨i, x, rfl, rfl, hx0, hx1, hi, hi2⟩, rfl⟩ := hrel
  by_cases hc : (i : Int) < dp
  ·by_cases hc2 : i < ds.length
   ·have c2 : (i : Int) < (ds.length : Int) := by omega
    have v := HD.out.d i (by omega)
    rw [HL.out i hc2] at v
    have hxq := HG.out ds[i] (List.getElem_mem hc2)
    generalize ds[i] = d at *
    have i1 : (i : Int) < 800 := by omega
    have i0 : (0 : Int) ≤ (i : Int) := by omega
    go_wp2_with fail
    refine ⟨⟨⟨i + 1, _, by go_num, rfl, ?_, ?_, by omega, by omega⟩, by first | rfl | trivial⟩, by simp [intOf]; go_num⟩
    ·first | omega | exact (wrap_u64_in _).1
    ·first | omega | exact (wrap_u64_in _).2
   ·have c2 : ¬ (i : Int) < (ds.length : Int) := by omega
    go_wp2_with fail
    go_loopw [3, 4] (fun v3 v4 wr => (∃ (j : Nat) (y : Int), v3 = .int .i64 (j : Int) ∧ v4 = .int .u64 y ∧ 0 ≤ y ∧ y < 18446744073709551616 ∧ j ≤ 20) ∧ w = wr) (fun v3 _ _ => 20 - (intOf v3).toNat)
    case atStart => exact ⟨⟨i, x, rfl, rfl, hx0, hx1, hi2⟩, rfl⟩
    case round =>
     obtain ⟨⟨j, y, rfl, rfl, hy0, hy1, hj⟩, rfl⟩ := hrel
     by_cases hj2 : (j : Int) < dp
     ·go_wp2_with fail
      refine ⟨⟨⟨j + 1, _, by go_num, rfl, ?_, ?_, by omega⟩, by first | rfl | trivial⟩, by simp [intOf]; go_num⟩
      ·first | omega | exact (wrap_u64_in _).1
      ·first | omega | exact (wrap_u64_in _).2
     ·go_wp2_with (first | (go_at_call 178; (refine (HRO.out _).mono ?_); rintro e w1 ⟨⟨t, rfl⟩, rfl⟩) | fail)
      ·go_ret
       exact ⟨⟨_, rfl, (wrap_u64_in _).1, (wrap_u64_in _).2⟩, rfl⟩
      ·go_ret
       exact ⟨⟨_, rfl, hy0, hy1⟩, rfl⟩
  ·go_wp2_with fail
   go_loopw [3, 4] (fun v3 v4 wr => (∃ (j : Nat) (y : Int), v3 = .int .i64 (j : Int) ∧ v4 = .int .u64 y ∧ 0 ≤ y ∧ y < 18446744073709551616 ∧ j ≤ 20) ∧ w = wr) (fun v3 _ _ => 20 - (intOf v3).toNat)
   case atStart => exact ⟨⟨i, x, rfl, rfl, hx0, hx1, hi2⟩, rfl⟩
   case round =>
    obtain ⟨⟨j, y, rfl, rfl, hy0, hy1, hj⟩, rfl⟩ := hrel
    by_cases hj2 : (j : Int) < dp
    ·go_wp2_with fail
     refine ⟨⟨⟨j + 1, _, by go_num, rfl, ?_, ?_, by omega⟩, by first | rfl | trivial⟩, by simp [intOf]; go_num⟩
     ·first | omega | exact (wrap_u64_in _).1
     ·first | omega | exact (wrap_u64_in _).2
    ·go_wp2_with (first | (go_at_call 178; (refine (HRO.out _).mono ?_); rintro e w1 ⟨⟨t, rfl⟩, rfl⟩) | fail)
     ·go_ret
      exact ⟨⟨_, rfl, (wrap_u64_in _).1, (wrap_u64_in _).2⟩, rfl⟩
     ·go_ret
      exact ⟨⟨_, rfl, hy0, hy1⟩, rfl⟩
end Go.Proofs.YtnccpddjdgndcaaGreatDoor.Dc
end

section
/- PLAIN: the two loops of floatBits: how far they run. No program in sight. -/
namespace Go.Proofs.YtnccpddjdgndcaaGreatDoor.Dc
def pn (m : Nat) : Nat := if m < 9 then [1, 3, 6, 9, 13, 16, 19, 23, 26][m]! else 27
theorem pn_bds (m : Nat) : 1 ≤ pn m ∧ pn m ≤ 27 := by
 unfold pn
 by_cases h : m < 9
 ·rw [if_pos h]
  obtain rfl | rfl | rfl | rfl | rfl | rfl | rfl | rfl | rfl : m = 0 ∨ m = 1 ∨ m = 2 ∨ m = 3 ∨ m = 4 ∨ m = 5 ∨ m = 6 ∨ m = 7 ∨ m = 8 := by omega
  all_goals decide
 ·rw [if_neg h]; decide
theorem pn_two (m : Nat) (h1 : 1 ≤ m) : 2 ≤ pn m := by
 unfold pn
 by_cases h : m < 9
 ·rw [if_pos h]
  obtain rfl | rfl | rfl | rfl | rfl | rfl | rfl | rfl : m = 1 ∨ m = 2 ∨ m = 3 ∨ m = 4 ∨ m = 5 ∨ m = 6 ∨ m = 7 ∨ m = 8 := by omega
  all_goals decide
 ·rw [if_neg h]; decide
theorem ten_two (a b : Nat) (ha : a = 310) (hb : b = 1030) : (10 : Nat) ^ a < 2 ^ b := by subst ha; subst hb; decide +kernel
theorem ten_two2 (a b : Nat) (ha : a = 331) (hb : b = 1100) : (10 : Nat) ^ a < 2 ^ b := by subst ha; subst hb; decide +kernel
structure F1 (s : DS) (e : Int) (c : Nat) : Prop where
 ok : Ok s
 lo : -330 ≤ s.dp
 hi : s.dp ≤ 310
 e0 : 0 ≤ e
 e1 : e ≤ 27 * (c : Int)
 fl : ∀ m, m = 310 → 2 ^ c * fl s.ds s.dp ≤ 10 ^ m
 cc : c ≤ 1030
theorem F1.start {s : DS} (h : Ok s) (lo : -330 ≤ s.dp) (hi : s.dp ≤ 310) : F1 s 0 0 :=
 ⟨h, lo, hi, by omega, by omega, fun m hm => by rw [Nat.pow_zero, Nat.one_mul]; exact fl_le s h m (by omega), by omega⟩
theorem F1.step {s : DS} {e : Int} {c : Nat} (h : F1 s e c) (hp : 0 < s.dp) :
  F1 (right (pn s.dp.toNat) s) (e + (pn s.dp.toNat : Int)) (c + 1) ∧ Dc.fl (right (pn s.dp.toNat) s).ds (right (pn s.dp.toNat) s).dp < Dc.fl s.ds s.dp := by
 obtain ⟨k1, k2⟩ := pn_bds s.dp.toNat
 generalize pn s.dp.toNat = k at *
 have a1 := right_half k s h.ok k1 hp
 have a2 := right_dp k s h.ok k1 (by omega)
 have a3 := fl_pos h.ok hp
 have h1 := h.lo
 have h2 := h.hi
 have h3 := h.e0
 have h4 := h.e1
 have hc : c + 1 ≤ 1030 := by
  refine Nat.lt_of_not_le fun hge => ?_
  obtain ⟨m, hm⟩ : ∃ m : Nat, m = 310 := ⟨_, rfl⟩
  obtain ⟨q, hq⟩ : ∃ q : Nat, q = 1030 := ⟨_, rfl⟩
  have b1 := h.fl m hm
  have b2 : 2 ^ c * 1 ≤ 2 ^ c * Dc.fl s.ds s.dp := Nat.mul_le_mul_left _ a3
  have b3 := ten_two m q hm hq
  have b4 : 2 ^ q ≤ 2 ^ c := Nat.pow_le_pow_right (by decide) (by omega)
  rw [Nat.mul_one] at b2
  exact Nat.lt_irrefl _ (Nat.lt_of_lt_of_le b3 (Nat.le_trans b4 (Nat.le_trans b2 b1)))
 refine ⟨⟨right_ok k s h.ok, by omega, by omega, by omega, by push_cast; omega, fun m hm => ?_, hc⟩, by omega⟩
 refine Nat.le_trans ?_ (h.fl m hm)
 rw [Nat.pow_succ, Nat.mul_assoc]
 exact Nat.mul_le_mul_left _ a1
structure F2 (e0 : Int) (s : DS) (e : Int) (c j : Nat) : Prop where
 ok : Ok s
 lo : -330 ≤ s.dp
 hi : s.dp ≤ 19
 e1 : e0 - 27 * (c : Int) - (j : Int) ≤ e
 e2 : e ≤ e0
 neg : s.dp < 0 → j = 0 ∧ ∀ m, m = 331 → 2 ^ c * iv s.ds s.dp ≤ 10 ^ m
 pos : 0 ≤ s.dp → j + iv s.ds s.dp ≤ 10
 cc : c ≤ 1101
theorem F2.start {s : DS} {e : Int} (h : Ok s) (lo : -330 ≤ s.dp) (hi : s.dp ≤ 0) : F2 e s e 0 0 := by
 refine ⟨h, lo, by omega, by omega, Int.le_refl _, fun _ => ⟨rfl, fun m hm => ?_⟩, fun hp => ?_, by omega⟩
 ·obtain ⟨q, hq⟩ : ∃ q : Nat, q + 1 = m := ⟨m - 1, by omega⟩
  rw [Nat.pow_zero, Nat.one_mul, ← hq]
  exact iv_le s h q (by omega)
 ·have := iv_le s h 0 (by omega)
  simpa using this
theorem F2.step {e0 : Int} {s : DS} {e : Int} {c j : Nat} (h : F2 e0 s e c j) (hh : Half s) :
  (∃ c2 j2, F2 e0 (left (pn (-s.dp).toNat) s) (e - (pn (-s.dp).toNat : Int)) c2 j2) ∧ iv (left (pn (-s.dp).toNat) s).ds (left (pn (-s.dp).toNat) s).dp < iv s.ds s.dp := by
 obtain ⟨k1, k2⟩ := pn_bds (-s.dp).toNat
 have kt := pn_two (-s.dp).toNat
 have k0 : s.dp = 0 → pn (-s.dp).toNat = 1 := fun g => by rw [g]; rfl
 generalize pn (-s.dp).toNat = k at *
 have a1 := left_less k k1 (by omega) s h.ok hh
 have a2 := left_dp k s h.ok (by omega)
 have a3 := iv_two h.ok hh
 have ho := left_ok k (by omega) s h.ok
 have h1 := h.lo
 have h2 := h.hi
 have h3 := h.e1
 have h4 := h.e2
 have h5 := h.cc
 refine ⟨?_, a1⟩
 by_cases hn : s.dp < 0
 ·obtain ⟨j0, hm⟩ := h.neg hn
  have a4 := left_half k (kt (by omega)) (by omega) s h.ok hh
  have hc : c + 1 ≤ 1101 := by
   refine Nat.lt_of_not_le fun hge => ?_
   obtain ⟨m, hm3⟩ : ∃ m : Nat, m = 331 := ⟨_, rfl⟩
   obtain ⟨q, hq⟩ : ∃ q : Nat, q = 1100 := ⟨_, rfl⟩
   have b1 := hm m hm3
   have b2 : 2 ^ c * 1 ≤ 2 ^ c * iv s.ds s.dp := Nat.mul_le_mul_left _ (by omega)
   have b3 := ten_two2 m q hm3 hq
   have b4 : 2 ^ q ≤ 2 ^ c := Nat.pow_le_pow_right (by decide) (by omega)
   rw [Nat.mul_one] at b2
   exact Nat.lt_irrefl _ (Nat.lt_of_lt_of_le b3 (Nat.le_trans b4 (Nat.le_trans b2 b1)))
  refine ⟨c + 1, 0, ho, by omega, by omega, by push_cast; omega, by omega, fun hn2 => ⟨rfl, fun m hm2 => ?_⟩, fun hp => ?_, hc⟩
  ·refine Nat.le_trans ?_ (hm m hm2)
   rw [Nat.pow_succ, Nat.mul_assoc]
   exact Nat.mul_le_mul_left _ a4
  ·have := iv_le _ ho 0 (by omega)
   simpa using this
 ·have hz : s.dp = 0 := by rcases hh with g | ⟨g, _⟩ <;> omega
  have hj := h.pos (by omega)
  have hk1 := k0 hz
  refine ⟨c, j + 1, ho, by omega, by omega, by push_cast; omega, by omega, fun hn2 => by omega, fun hp => by omega, h5⟩
theorem F2.bds {e0 : Int} {s : DS} {e : Int} {c j : Nat} (h : F2 e0 s e c j) : e0 - 29800 ≤ e ∧ e ≤ e0 ∧ -330 ≤ s.dp ∧ s.dp ≤ 19 := by
 have h1 := h.e1
 have h2 := h.e2
 have h3 := h.cc
 have h4 : j ≤ 10 := by
  by_cases g : s.dp < 0
  ·have := (h.neg g).1; omega
  ·have := h.pos (by omega); omega
 exact ⟨by omega, h2, h.lo, h.hi⟩
theorem F1.bds {s : DS} {e : Int} {c : Nat} (h : F1 s e c) : 0 ≤ e ∧ e ≤ 27810 ∧ -330 ≤ s.dp ∧ s.dp ≤ 310 := by
 have h1 := h.e1
 have h2 := h.cc
 exact ⟨h.e0, by omega, h.lo, h.hi⟩
end Go.Proofs.YtnccpddjdgndcaaGreatDoor.Dc
end

section
/- A SCOPE WHOSE JUMPS LEAD FORWARD: each goto goes on at its label, from where no further goto is taken. -/
namespace Go
def Exit.fwd (P : Program) (c : Code) (Q : Exit → Act → World → Prop) : Exit → Act → World → Prop
 | .goto l, a, w => ∃ rest, findLabel c l = some rest ∧ rest.wp P (Exit.noGoto Q) a w
 | e, a, w => Q e a w
theorem wp_scope_fwd {P : Program} {a : Act} {w : World} {Q : Exit → Act → World → Prop} {c : Code} (h : c.wp P (Exit.fwd P c Q) a w) : (Code.scope c).wp P Q a w := by
 intro b k cs
 obtain ⟨e, a₁, w₁, hq, harr⟩ := h b (.inScope c :: k) cs
 cases e with
 | normal => exact ⟨.normal, a₁, w₁, hq, .head step_scope (Steps.trans harr (.one step_inScope))⟩
 | exit id => exact ⟨.exit id, a₁, w₁, hq, fun k' hk => .head step_scope (harr k' (by simp [exitTo, hk]))⟩
 | goto l =>
  obtain ⟨rest, hf, hr⟩ := hq
  have hg : gotoIn l (.inScope c :: k) = some (.code rest :: .inScope c :: k) := by simp [gotoIn, hf]
  obtain ⟨e₂, a₂, w₂, hq₂, harr₂⟩ := hr b (.inScope c :: k) cs
  have first := harr _ hg
  cases e₂ with
  | normal => exact ⟨.normal, a₂, w₂, hq₂, .head step_scope (Steps.trans first (Steps.trans harr₂ (.one step_inScope)))⟩
  | exit id => exact ⟨.exit id, a₂, w₂, hq₂, fun k' hk => .head step_scope (Steps.trans first (harr₂ k' (by simp [exitTo, hk])))⟩
  | goto l2 => exact hq₂.elim
  | ret => exact ⟨_, a₂, w₂, hq₂, .of_steps (.head step_scope first) harr₂⟩
  | panic ch => exact ⟨_, a₂, w₂, hq₂, .of_steps (.head step_scope first) harr₂⟩
  | outgrown => exact ⟨_, a₂, w₂, hq₂, .of_steps (.head step_scope first) harr₂⟩
 | ret => exact ⟨_, a₁, w₁, hq, .of_steps (.one step_scope) harr⟩
 | panic ch => exact ⟨_, a₁, w₁, hq, .of_steps (.one step_scope) harr⟩
 | outgrown => exact ⟨_, a₁, w₁, hq, .of_steps (.one step_scope) harr⟩
end Go
end

section
/- THE WALK OF (*decimal).floatBits: it answers, whatever the decimal be. -/
namespace Go.Proofs.YtnccpddjdgndcaaGreatDoor.Dc
open Go.RowKit
theorem DK.keep {b B : Nat} {w w2 : World} (h : DK b w w2) (hB : B ≤ b) (hs : B ≤ w.heap.size) {p : Addr} {v : Value} (hp : p.block < B) (hc : w.cell? p = some v) : w2.cell? p = some v := (h.cell (by omega) (by omega)).trans hc
structure TbW (w : World) (B R o c : Nat) : Prop where
 i0 : w.cell? ⟨10, 0, none⟩ = some (.int .u64 52)
 i1 : w.cell? ⟨10, 1, none⟩ = some (.int .u64 11)
 i2 : w.cell? ⟨10, 2, none⟩ = some (.int .i64 (-1023))
 tb : w.cell? ⟨12, 0, none⟩ = some (.slice (some ⟨R, o, none⟩) 9 c)
 row : ∀ k : Nat, k < 9 → w.cell? ⟨R, o + k, none⟩ = some (.int .i64 ((pn k : Nat) : Int))
 lc : LcT w
 b1 : 10 < B
 b2 : 12 < B
 b3 : R < B
 b4 : ∀ R2 o2 c2 : Nat, w.cell? ⟨17, 0, none⟩ = some (.slice (some ⟨R2, o2, none⟩) 61 c2) → R2 < B ∧ 17 < B
theorem TbW.dk {w w2 : World} {b B R o c : Nat} (h : TbW w B R o c) (hd : DK b w w2) (hB : B ≤ b) (hs : B ≤ w.heap.size) : TbW w2 B R o c := by
 obtain ⟨R2, o2, c2, h1, h2⟩ := h.lc
 obtain ⟨k1, k2⟩ := h.b4 _ _ _ h1
 have e1 := hd.keep hB hs (p := ⟨17, 0, none⟩) k2 h1
 refine ⟨hd.keep hB hs h.b1 h.i0, hd.keep hB hs h.b1 h.i1, hd.keep hB hs h.b1 h.i2, hd.keep hB hs h.b2 h.tb, fun k hk => hd.keep hB hs h.b3 (h.row k hk), ⟨R2, o2, c2, e1, fun k a b => ⟨hd.keep hB hs k1 (h2 k a b).1, hd.keep hB hs k1 (h2 k a b).2⟩⟩, h.b1, h.b2, h.b3, fun R3 o3 c3 h3 => ?_⟩
 rw [e1] at h3
 cases h3
 exact ⟨k1, k2⟩
theorem TbW.drewN {w : World} {B R o c : Nat} (h : TbW w B R o c) (n : Nat) : TbW (w.drewN n) B R o c :=
 ⟨by simpa using h.i0, by simpa using h.i1, by simpa using h.i2, by simpa using h.tb, fun k hk => by simpa using h.row k hk, h.lc.drewN n, h.b1, h.b2, h.b3, fun R2 o2 c2 h2 => h.b4 R2 o2 c2 (by simpa using h2)⟩
theorem or_u64_bd (a b : Int) : 0 ≤ bits .or .u64 a b ∧ bits .or .u64 a b < 18446744073709551616 := wrap_u64_in _
def AnsF (e : Ending) : Prop := ∃ (u : Int) (ov : Bool), e = .returned (.tuple #[.int .u64 u, .bool ov]) ∧ 0 ≤ u ∧ u < 18446744073709551616
theorem two_drew (w : World) (a b : Nat) (bk : Nat) : DK bk w ((w.drewN a).drewN b) := (dk_drewN bk a w).trans (dk_drewN bk b _)
theorem drews (w : World) (bk : Nat) : ∀ l : List Nat, DK bk w (l.foldl (fun w n => w.drewN n) w) := fun l => by
 induction l generalizing w with
 | nil => exact DK.refl _ _
 | cons n l ih => exact (dk_drewN bk n w).trans (ih _)
set_option maxRecDepth 20000 in
set_option maxHeartbeats 4000000 in
theorem fb_none (b : Nat) (dp : Int) (w : World) (hd : DAt w b [] dp) (B R o c : Nat) (hF : TbW w B R o c) :
  Calls Tryz.prog 155 #[.pointer (some ⟨b, 0, none⟩), (.pointer (some ⟨10, 0, none⟩))] w fun e w' => AnsF e ∧ DK b w w' := by
 obtain ⟨arr, hD, _, _⟩ := hd
 have y8 : w.cell? ⟨b, 800, none⟩ = some (.int .i64 0) := hD.nd
 obtain ⟨ng, y2⟩ := hD.ng
 have z0 := hF.i0; have z1 := hF.i1; have z2 := hF.i2
 clear hD hF
 cases ng
 ·go_enter Tryz.func155, Tryz.ntmps155
  go_wp2
  apply wp_scope_fwd
  go_hide hQ
  go_wp2
  go_step3
  subst hQ
  refine ⟨_, rfl, ?_⟩
  go_wp2
  go_quiet (fail)
  go_wp2
  rw [Exit.noGoto_ret]
  go_returns
  exact ⟨⟨_, _, rfl, (or_u64_bd _ _).1, (or_u64_bd _ _).2⟩, dk_drewN _ _ _⟩
 ·go_enter Tryz.func155, Tryz.ntmps155
  go_wp2
  apply wp_scope_fwd
  go_hide hQ
  go_wp2
  go_step3
  subst hQ
  refine ⟨_, rfl, ?_⟩
  go_wp2
  go_quiet (fail)
  go_wp2
  go_quiet (fail)
  go_wp2
  rw [Exit.noGoto_ret]
  go_returns
  exact ⟨⟨_, _, rfl, (or_u64_bd _ _).1, (or_u64_bd _ _).2⟩, two_drew _ _ _ _⟩
set_option maxRecDepth 20000 in
set_option maxHeartbeats 4000000 in
theorem fb_far (b : Nat) (s : DS) (w : World) (hd : DAt w b s.ds s.dp) (hok : Ok s) (B R o c : Nat) (hF : TbW w B R o c) (hf : 310 < s.dp ∨ s.dp < -330) :
  Calls Tryz.prog 155 #[.pointer (some ⟨b, 0, none⟩), (.pointer (some ⟨10, 0, none⟩))] w fun e w' => AnsF e ∧ DK b w w' := by
 obtain ⟨arr, hD, _, _⟩ := hd
 have y8 := hD.nd
 have y9 := hD.dp
 obtain ⟨ng, y2⟩ := hD.ng
 have z0 := hF.i0; have z1 := hF.i1; have z2 := hF.i2
 have hl1 : 1 ≤ s.ds.length := by obtain ⟨d, t, e, _⟩ := hok.hd; rw [e]; simp
 have n1 : ((s.ds.length : Int) == 0) = false := beq_eq_false_iff_ne.2 (by omega)
 clear hD hF hok
 rcases hf with hf | hf
 ·cases ng
  ·go_enter Tryz.func155, Tryz.ntmps155
   go_wp2
   apply wp_scope_fwd
   go_hide hQ
   go_wp2
   go_step3
   subst hQ
   refine ⟨_, rfl, ?_⟩
   go_wp2
   go_quiet (fail)
   go_wp2
   go_step3
   go_wp2
   go_quiet (fail)
   go_wp2
   rw [Exit.noGoto_ret]
   go_returns
   exact ⟨⟨_, _, rfl, (or_u64_bd _ _).1, (or_u64_bd _ _).2⟩, (by first | exact DK.refl _ _ | exact dk_drewN _ _ _ | exact two_drew _ _ _ _ | exact drews _ _ [_, _, _] | exact drews _ _ [_, _, _, _])⟩
  ·go_enter Tryz.func155, Tryz.ntmps155
   go_wp2
   apply wp_scope_fwd
   go_hide hQ
   go_wp2
   go_step3
   subst hQ
   refine ⟨_, rfl, ?_⟩
   go_wp2
   go_quiet (fail)
   go_wp2
   go_step3
   go_wp2
   go_quiet (fail)
   go_wp2
   go_quiet (fail)
   go_wp2
   rw [Exit.noGoto_ret]
   go_returns
   exact ⟨⟨_, _, rfl, (or_u64_bd _ _).1, (or_u64_bd _ _).2⟩, (by first | exact DK.refl _ _ | exact dk_drewN _ _ _ | exact two_drew _ _ _ _ | exact drews _ _ [_, _, _] | exact drews _ _ [_, _, _, _])⟩
 ·have m1 : ¬ (310 : Int) < s.dp := by omega
  cases ng
  ·go_enter Tryz.func155, Tryz.ntmps155
   go_wp2
   apply wp_scope_fwd
   go_hide hQ
   go_wp2
   go_step3
   subst hQ
   refine ⟨_, rfl, ?_⟩
   go_wp2
   go_quiet (fail)
   go_wp2
   rw [Exit.noGoto_ret]
   go_returns
   exact ⟨⟨_, _, rfl, (or_u64_bd _ _).1, (or_u64_bd _ _).2⟩, (by first | exact DK.refl _ _ | exact dk_drewN _ _ _ | exact two_drew _ _ _ _ | exact drews _ _ [_, _, _] | exact drews _ _ [_, _, _, _])⟩
  ·go_enter Tryz.func155, Tryz.ntmps155
   go_wp2
   apply wp_scope_fwd
   go_hide hQ
   go_wp2
   go_step3
   subst hQ
   refine ⟨_, rfl, ?_⟩
   go_wp2
   go_quiet (fail)
   go_wp2
   go_quiet (fail)
   go_wp2
   rw [Exit.noGoto_ret]
   go_returns
   exact ⟨⟨_, _, rfl, (or_u64_bd _ _).1, (or_u64_bd _ _).2⟩, (by first | exact DK.refl _ _ | exact dk_drewN _ _ _ | exact two_drew _ _ _ _ | exact drews _ _ [_, _, _] | exact drews _ _ [_, _, _, _])⟩
end Go.Proofs.YtnccpddjdgndcaaGreatDoor.Dc
end

section
/- THE WALK OF (*decimal).set: it answers, whatever the text be, and leaves a decimal. -/
namespace Go.Proofs.YtnccpddjdgndcaaGreatDoor.Dc
open Go.RowKit
theorem DAt.setDp {W : World} {b : Nat} {ds : List Nat} {dp : Int} (h : DAt W b ds dp) (n : Int) : DAt (W.setCell ⟨b, 801, none⟩ (.int .i64 n)) b ds n := by
 obtain ⟨arr, hD, hL, h8⟩ := h
 exact ⟨arr, hD.setDp n, hL, h8⟩
theorem DAt.setNg {W : World} {b : Nat} {ds : List Nat} {dp : Int} (h : DAt W b ds dp) (z : Bool) : DAt (W.setCell ⟨b, 802, none⟩ (.bool z)) b ds dp := by
 obtain ⟨arr, hD, hL, h8⟩ := h
 exact ⟨arr, hD.setNg z, hL, h8⟩
theorem DAt.setTr {W : World} {b : Nat} {ds : List Nat} {dp : Int} (h : DAt W b ds dp) (z : Bool) : DAt (W.setCell ⟨b, 803, none⟩ (.bool z)) b ds dp := by
 obtain ⟨arr, hD, hL, h8⟩ := h
 exact ⟨arr, hD.setTr z, hL, h8⟩
theorem DArr.drew {W : World} {b : Nat} {arr : Nat → Nat} {nd dp : Int} (h : DArr W b arr nd dp) : DArr W.drew b arr nd dp :=
 ⟨fun i hi => by simpa using h.d i hi, by simpa using h.nd, by simpa using h.dp, by simpa using h.ng, by simpa using h.tr, fun o => by simpa using h.fz o⟩
theorem DAt.push {W : World} {b : Nat} {ds : List Nat} {dp : Int} (h : DAt W b ds dp) (c : Nat) (hl : ds.length < 800) (v : Int) (hv : v = 48 + (c : Int)) (n : Int) (hn : n = (ds.length : Int) + 1) :
  DAt ((W.setCell ⟨b, ds.length, none⟩ (.int .u8 v)).drew.setCell ⟨b, 800, none⟩ (.int .i64 n)) b (ds ++ [c]) dp := by
 obtain ⟨arr, hD, hL, h8⟩ := h
 have h1 := hD.setD ds.length (48 + c) hl
 have e : (((48 + c : Nat)) : Int) = v := by omega
 rw [e] at h1
 have h2 := h1.drew.setNd n
 refine ⟨upd arr ds.length (48 + c), ?_, fun i hi => ?_, by rw [List.length_append]; simp; omega⟩
 ·have e2 : (((ds ++ [c]).length : Nat) : Int) = n := by rw [List.length_append]; simp; omega
  rw [e2]; exact h2
 ·unfold upd
  rw [List.length_append, List.length_singleton] at hi
  by_cases g : i = ds.length
  ·subst g
   rw [if_pos rfl, List.getElem_append_right (Nat.le_refl _)]
   simp
  ·rw [if_neg g, List.getElem_append_left (by omega)]
   exact hL i (by omega)
theorem dk_push (b : Nat) (W : World) (o1 o2 : Nat) (v1 v2 : Value) : DK b W ((W.setCell ⟨b, o1, none⟩ v1).drew.setCell ⟨b, o2, none⟩ v2) := (dk_set b o1 W v1).trans ((dk_drewN b 1 _).trans (dk_set b o2 _ v2))
structure SSt (b : Nat) (w wr : World) (ds : List Nat) (dp lo : Int) : Prop where
 at_ : DAt wr b ds dp
 dg : Dg ds
 hd : ds = [] ∨ Hd ds
 lo_ : -lo ≤ dp
 hi_ : dp ≤ lo + 1000
 dk : DK b w wr
theorem hd_app {ds : List Nat} (h : ds = [] ∨ Hd ds) (c : Nat) (hc : ds = [] → c ≠ 0) : Hd (ds ++ [c]) := by
 rcases h with rfl | ⟨d, r, rfl, h0⟩
 ·exact ⟨c, [], rfl, hc rfl⟩
 ·exact ⟨d, r ++ [c], rfl, h0⟩
theorem dg_app {ds : List Nat} (h : Dg ds) (c : Nat) (hc : c ≤ 9) : Dg (ds ++ [c]) := fun d hd => by
 rcases List.mem_append.1 hd with h1 | h1
 ·exact h d h1
 ·rw [List.mem_singleton] at h1; omega
def SetP (b : Nat) (w : World) (e : Ending) (w' : World) : Prop := (∃ ok : Bool, e = .returned (.bool ok)) ∧ ∃ ds dp, SSt b w w' ds dp 400000
theorem SSt.fin {b : Nat} {w wr : World} {ds : List Nat} {dp lo : Int} (h : SSt b w wr ds dp lo) (hlo : lo ≤ 400000) (ok : Bool) : SetP b w (.returned (.bool ok)) wr :=
 ⟨⟨_, rfl⟩, ds, dp, h.at_, h.dg, h.hd, by have := h.lo_; omega, by have := h.hi_; omega, h.dk⟩
set_option maxRecDepth 20000 in
set_option maxHeartbeats 4000000 in
theorem set_any (b : Nat) (s : ByteArray) (w : World) (hs : s.size ≤ 100000) (hd : DAt w b [] 0) :
  Calls Tryz.prog 154 #[.pointer (some ⟨b, 0, none⟩), .string s] w fun e w' => SetP b w e w' := by
 obtain ⟨arr0, hD0, _, _⟩ := id hd
 obtain ⟨x2, y2⟩ := hD0.ng
 obtain ⟨x3, y3⟩ := hD0.tr
 have yz := hD0.fz
 have HD := Lib.hid hd
 clear hD0 hd
 by_cases h0 : s.size = 0
 ·have i0 : (s.size : Int) ≤ 0 := by omega
  go_enter Tryz.func154, Tryz.ntmps154
  go_wp2_with fail
  go_ret
  exact ⟨⟨_, rfl⟩, [], 0, (HD.out.setNg _).setTr _, (fun d hd => by cases hd), .inl rfl, by omega, by omega, (dk_set _ _ _ _).trans (dk_set _ _ _ _)⟩
 have i0 : (0 : Int) < (s.size : Int) := by omega
 have hcs : ((s[0]'(by omega)).toNat : Int) = 43 ∨ (¬ ((s[0]'(by omega)).toNat : Int) = 43 ∧ ((s[0]'(by omega)).toNat : Int) = 45) ∨ (¬ ((s[0]'(by omega)).toNat : Int) = 43 ∧ ¬ ((s[0]'(by omega)).toNat : Int) = 45) := by omega
 have hst : SSt b w ((w.setCell ⟨b, 802, none⟩ (.bool false)).setCell ⟨b, 803, none⟩ (.bool false)) [] 0 0 := ⟨(HD.out.setNg _).setTr _, (fun d hd => by cases hd), .inl rfl, by omega, by omega, (dk_set _ _ _ _).trans (dk_set _ _ _ _)⟩
 have hst2 : SSt b w (((w.setCell ⟨b, 802, none⟩ (.bool false)).setCell ⟨b, 803, none⟩ (.bool false)).setCell ⟨b, 802, none⟩ (.bool true)) [] 0 0 := ⟨((HD.out.setNg _).setTr _).setNg _, (fun d hd => by cases hd), .inl rfl, by omega, by omega, ((dk_set _ _ _ _).trans (dk_set _ _ _ _)).trans (dk_set _ _ _ _)⟩
 have HST := Lib.hid hst; have HST2 := Lib.hid hst2
 clear hst hst2
 go_enter Tryz.func154, Tryz.ntmps154
 go_upto_block 0 with fail
 go_cut [5] from 22 to 33 (fun v5 wx => ∃ j : Nat, v5 = .int .i64 j ∧ j ≤ s.size ∧ Hid (SSt b w wx [] 0 0))
 case first => as_aux_lemma =>
  rcases hcs with c1 | ⟨c1, c2⟩ | ⟨c1, c2⟩
  ·go_wp2_with fail
   go_meet
   exact ⟨1, rfl, by omega, HST⟩
  ·go_wp2_with fail
   go_meet
   exact ⟨1, rfl, by omega, HST2⟩
  ·go_wp2_with fail
   go_meet
   exact ⟨0, rfl, by omega, HST⟩
 case rest => as_aux_lemma =>
  obtain ⟨j, rfl, hj, hs0⟩ := hcut
  clear hcs y2 y3 yz
  go_upto_block 1 with fail
  go_cut [5, 6, 7] from 34 to 116 (fun v5 v6 v7 wx => ∃ (k : Nat) (d1 d2 : Bool) (ds : List Nat) (dp : Int), v5 = .int .i64 k ∧ v6 = .bool d1 ∧ v7 = .bool d2 ∧ k ≤ s.size ∧ Hid (SSt b w wx ds dp k))
  case first => as_aux_lemma =>
   go_wp2
   go_loopw [5, 6, 7] (fun v5 v6 v7 wr => ∃ (k : Nat) (d1 d2 : Bool) (ds : List Nat) (dp : Int), v5 = .int .i64 k ∧ v6 = .bool d1 ∧ v7 = .bool d2 ∧ k ≤ s.size ∧ Hid (SSt b w wr ds dp k)) (fun v5 _ _ _ => s.size - (intOf v5).toNat)
   case atStart => exact ⟨j, false, false, [], 0, rfl, rfl, rfl, hj, Lib.hid ⟨hs0.out.at_, hs0.out.dg, hs0.out.hd, by omega, by omega, hs0.out.dk⟩⟩
   case round =>
    obtain ⟨k, d1, d2, ds, dp, rfl, rfl, rfl, hk, hS⟩ := hrel
    obtain ⟨arr, hD, hL, h8⟩ := hS.out.at_
    have y8 := hD.nd
    have y9 := hD.dp
    have yz := hD.fz
    obtain ⟨x3, y3⟩ := hD.tr
    have b1 := hS.out.lo_
    have b2 := hS.out.hi_
    have HDD := Lib.hid hD
    clear hD hL
    by_cases hlt : k < s.size
    ·have i1 : (k : Int) < (s.size : Int) := by omega
     have i2 : (0 : Int) ≤ (k : Int) := by omega
     by_cases c95 : (s[k].toNat : Int) = 95
     ·have b95 : ((s[k].toNat : Int) == 95) = true := by simpa using c95
      go_wp2_with fail
      exact ⟨⟨k + 1, d1, d2, ds, dp, by go_num, rfl, rfl, by omega, Lib.hid ⟨hS.out.at_, hS.out.dg, hS.out.hd, by omega, by omega, hS.out.dk⟩⟩, by simp [intOf]; go_num⟩
     have b95 : ((s[k].toNat : Int) == 95) = false := by simpa using c95
     by_cases c46 : (s[k].toNat : Int) = 46
     ·have b46 : ((s[k].toNat : Int) == 46) = true := by simpa using c46
      cases d1
      ·go_wp2_with fail
       exact ⟨⟨k + 1, true, d2, ds, ds.length, by go_num, rfl, rfl, by omega, Lib.hid ⟨hS.out.at_.setDp _, hS.out.dg, hS.out.hd, by omega, by omega, hS.out.dk.trans (dk_set _ _ _ _)⟩⟩, by simp [intOf]; go_num⟩
      ·go_wp2_with fail
       go_ret
       exact hS.out.fin (by omega) false
     have b46 : ((s[k].toNat : Int) == 46) = false := by simpa using c46
     by_cases cd : 48 ≤ (s[k].toNat : Int) ∧ (s[k].toNat : Int) ≤ 57
     ·obtain ⟨cd1, cd2⟩ := cd
      by_cases c48 : (s[k].toNat : Int) = 48 ∧ ds = []
      ·obtain ⟨c48, rfl⟩ := c48
       have b48 : ((s[k].toNat : Int) == 48) = true := by simpa using c48
       have y8' : wr.cell? ⟨b, 800, none⟩ = some (.int .i64 0) := y8
       clear y8
       go_wp2_with fail
       exact ⟨⟨k + 1, d1, true, [], dp - 1, by go_num, rfl, rfl, by omega, Lib.hid ⟨by have := hS.out.at_.setDp (dp - 1); (first | exact this | simpa using this), hS.out.dg, hS.out.hd, by omega, by omega, hS.out.dk.trans (dk_set _ _ _ _)⟩⟩, by simp [intOf]; go_num⟩
      ·have hb : ((s[k].toNat : Int) == 48) = false ∨ (((s[k].toNat : Int) == 48) = true ∧ ((ds.length : Int) == 0) = false) := by
        by_cases e : (s[k].toNat : Int) = 48
        ·right
         refine ⟨by simpa using e, beq_eq_false_iff_ne.2 fun h0 => c48 ⟨e, List.eq_nil_of_length_eq_zero (by omega)⟩⟩
        ·left; exact beq_eq_false_iff_ne.2 e
       obtain ⟨c, hc⟩ : ∃ c : Nat, (s[k].toNat : Int) = 48 + (c : Int) := ⟨((s[k].toNat : Int) - 48).toNat, by omega⟩
       have hc9 : c ≤ 9 := by omega
       have hcz : ds = [] → c ≠ 0 := fun e g => c48 ⟨by omega, e⟩
       have HC := Lib.hid hc; have HCZ := Lib.hid hcz
       clear c48 hc hcz c95 c46
       by_cases h800 : ds.length < 800
       ·have i3 : (ds.length : Int) < 800 := by omega
        have i4 : (0 : Int) ≤ (ds.length : Int) := by omega
        have hcell : ∃ v, wr.cell? ⟨b, ds.length, none⟩ = some v := ⟨_, HDD.out.d ds.length h800⟩
        obtain ⟨v, hcell⟩ := hcell
        rcases hb with g1 | ⟨g1, g2⟩
        ·go_upto_region 25 with fail
         go_region
         have y8b := (set_other wr b ds.length 800 (.int .u8 (s[k].toNat : Int)) (by omega)).trans y8
         go_wp2_with fail
         exact ⟨⟨k + 1, d1, true, ds ++ [c], dp, by go_num, rfl, rfl, by omega, Lib.hid ⟨hS.out.at_.push c h800 _ HC.out _ (by go_num), dg_app hS.out.dg c hc9, .inr (hd_app hS.out.hd c HCZ.out), by omega, by omega, hS.out.dk.trans (dk_push _ _ _ _ _ _)⟩⟩, by simp [intOf]; go_num⟩
        ·go_upto_region 25 with fail
         go_region
         have y8b := (set_other wr b ds.length 800 (.int .u8 (s[k].toNat : Int)) (by omega)).trans y8
         go_wp2_with fail
         exact ⟨⟨k + 1, d1, true, ds ++ [c], dp, by go_num, rfl, rfl, by omega, Lib.hid ⟨hS.out.at_.push c h800 _ HC.out _ (by go_num), dg_app hS.out.dg c hc9, .inr (hd_app hS.out.hd c HCZ.out), by omega, by omega, hS.out.dk.trans (dk_push _ _ _ _ _ _)⟩⟩, by simp [intOf]; go_num⟩
       ·have i3 : ¬ (ds.length : Int) < 800 := by omega
        have i5 : ((ds.length : Int) == 0) = false := beq_eq_false_iff_ne.2 (by omega)
        by_cases g : (s[k].toNat : Int) = 48
        ·have g1 : ((s[k].toNat : Int) == 48) = true := by simpa using g
         have g3 : ((s[k].toNat : Int) != 48) = false := by simpa using g
         go_wp2_with fail
         exact ⟨⟨k + 1, d1, true, ds, dp, by go_num, rfl, rfl, by omega, Lib.hid ⟨hS.out.at_, hS.out.dg, hS.out.hd, by omega, by omega, hS.out.dk⟩⟩, by simp [intOf]; go_num⟩
        ·have g1 : ((s[k].toNat : Int) == 48) = false := beq_eq_false_iff_ne.2 g
         have g3 : ((s[k].toNat : Int) != 48) = true := by simpa using g
         go_wp2_with fail
         exact ⟨⟨k + 1, d1, true, ds, dp, by go_num, rfl, rfl, by omega, Lib.hid ⟨hS.out.at_.setTr _, hS.out.dg, hS.out.hd, by omega, by omega, hS.out.dk.trans (dk_set _ _ _ _)⟩⟩, by simp [intOf]; go_num⟩
     ·have hd : (48 ≤ (s[k].toNat : Int) ∧ ¬ (s[k].toNat : Int) ≤ 57) ∨ ¬ 48 ≤ (s[k].toNat : Int) := by omega
      clear cd
      rcases hd with ⟨e1, e2⟩ | e1
      all_goals
       go_wp2_with fail
       go_meet
       exact ⟨k, d1, d2, ds, dp, rfl, rfl, rfl, hk, hS⟩
    ·have i1 : ¬ (k : Int) < (s.size : Int) := by omega
     go_wp2_with fail
     go_meet
     exact ⟨k, d1, d2, ds, dp, rfl, rfl, rfl, hk, hS⟩
  case rest => as_aux_lemma =>
   obtain ⟨k, d1, d2, ds, dp, rfl, rfl, rfl, hk, hS⟩ := hcut
   obtain ⟨arr, hD, _, _⟩ := hS.out.at_
   have y8 := hD.nd
   have y9 := hD.dp
   have yz := hD.fz
   have b1 := hS.out.lo_
   have b2 := hS.out.hi_
   have hl8 : ds.length ≤ 800 := by assumption
   clear hD
   cases d2
   ·go_wp2_with fail
    go_ret
    exact hS.out.fin (by omega) false
   ·go_upto_if 120 with fail
    go_cut [] from 119 to 127 (fun wx => ∃ dp2 : Int, Hid (SSt b w wx ds dp2 200000))
    case first => as_aux_lemma =>
     cases d1
     ·go_wp2_with fail
      go_meet
      exact ⟨ds.length, Lib.hid ⟨hS.out.at_.setDp _, hS.out.dg, hS.out.hd, by omega, by omega, hS.out.dk.trans (dk_set _ _ _ _)⟩⟩
     ·go_wp2_with fail
      go_meet
      exact ⟨dp, Lib.hid ⟨hS.out.at_, hS.out.dg, hS.out.hd, by omega, by omega, hS.out.dk⟩⟩
    case rest => as_aux_lemma =>
     clear y8 y9 yz b1 b2 hl8 hS HST HST2 HD hs0
     obtain ⟨dp2, hS⟩ := hcut
     obtain ⟨arr, hD, _, _⟩ := hS.out.at_
     have y9 := hD.dp
     have yz := hD.fz
     have b1 := hS.out.lo_
     have b2 := hS.out.hi_
     clear hD
     have hno : ∀ ok : Bool, SetP b w (.returned (.bool ok)) wc := fun ok => SSt.fin (lo := 200000) hS.out (by omega) ok
     have HNO := Lib.hid hno
     clear hno
     by_cases hx : ∃ h : k < s.size, Pf.low ((s[k]'h).toNat : Int) = 101
     ·obtain ⟨hlt, hx⟩ := hx
      have i1 : (k : Int) < (s.size : Int) := by omega
      have i2 : (0 : Int) ≤ (k : Int) := by omega
      have bx : (Pf.low ((s[k]'hlt).toNat : Int) == 101) = true := by simpa using hx
      clear hx
      obtain ⟨k1, hk1⟩ : ∃ k1 : Nat, k + 1 = k1 := ⟨_, rfl⟩
      have hkk : (k : Int) + 1 = (k1 : Int) := by omega
      have HK1 := Lib.hid hk1
      clear hk1
      by_cases h1 : k1 < s.size
      ·have i3 : ¬ (s.size : Int) ≤ (k1 : Int) := by omega
       have i4 : (k1 : Int) < (s.size : Int) := by omega
       have i5 : (0 : Int) ≤ (k1 : Int) := by omega
       have hcs : ((s[k1]'h1).toNat : Int) = 43 ∨ (¬ ((s[k1]'h1).toNat : Int) = 43 ∧ ((s[k1]'h1).toNat : Int) = 45) ∨ (¬ ((s[k1]'h1).toNat : Int) = 43 ∧ ¬ ((s[k1]'h1).toNat : Int) = 45) := by omega
       go_upto_block 4 with (first | (go_at_call 115; refine (Pf.lower_any _ _).mono ?_; rintro e w1 ⟨rfl, rfl⟩) | fail)
       go_cut [5, 8] from 145 to 155 (fun v5 v8 wx => ∃ (i : Nat) (es : Int), v5 = .int .i64 i ∧ v8 = .int .i64 es ∧ i ≤ s.size ∧ (es = 1 ∨ es = -1) ∧ wc = wx)
       case first => as_aux_lemma =>
        rcases hcs with c1 | ⟨c1, c2⟩ | ⟨c1, c2⟩
        ·go_wp2_with fail
         go_meet
         exact ⟨k1 + 1, 1, by go_num, rfl, by omega, .inl rfl, rfl⟩
        ·go_wp2_with fail
         go_meet
         exact ⟨k1 + 1, -1, by go_num, rfl, by omega, .inr rfl, rfl⟩
        ·go_wp2_with fail
         go_meet
         exact ⟨k1, 1, by go_num, rfl, by omega, .inl rfl, rfl⟩
       case rest => as_aux_lemma =>
        obtain ⟨i, es, rfl, rfl, hi, hes, rfl⟩ := hcut
        clear hcs
        by_cases hq : ∃ h : i < s.size, 48 ≤ ((s[i]'h).toNat : Int) ∧ ((s[i]'h).toNat : Int) ≤ 57
        ·obtain ⟨hlt2, q1, q2⟩ := hq
         have i1 : ¬ (s.size : Int) ≤ (i : Int) := by omega
         have i2 : (0 : Int) ≤ (i : Int) := by omega
         have i3 : (i : Int) < (s.size : Int) := by omega
         have q3 : ¬ ((s[i]'hlt2).toNat : Int) < 48 := by omega
         have q4 : ¬ (57 : Int) < ((s[i]'hlt2).toNat : Int) := by omega
         go_wp2_with fail
         clear q1 q2 q3 q4
         go_loopw [5, 9] (fun v5 v9 wr => (∃ (n : Nat) (e : Int), v5 = .int .i64 n ∧ v9 = .int .i64 e ∧ n ≤ s.size ∧ 0 ≤ e ∧ e ≤ 99999) ∧ wc = wr) (fun v5 _ _ => s.size - (intOf v5).toNat)
         case atStart => exact ⟨⟨i, 0, rfl, rfl, hi, by omega, by omega⟩, rfl⟩
         case round =>
          obtain ⟨⟨n, e, rfl, rfl, hn, e0, e1⟩, rfl⟩ := hrel
          by_cases hl : n < s.size
          ·have i1 : (n : Int) < (s.size : Int) := by omega
           have i2 : (0 : Int) ≤ (n : Int) := by omega
           by_cases c95 : ((s[n]'hl).toNat : Int) = 95
           ·have q1 : (48 : Int) ≤ ((s[n]'hl).toNat : Int) := by omega
            have q2 : ¬ ((s[n]'hl).toNat : Int) ≤ 57 := by omega
            have q3 : (((s[n]'hl).toNat : Int) == 95) = true := by simpa using c95
            go_wp2_with fail
            exact ⟨⟨⟨n + 1, e, by go_num, rfl, by omega, e0, e1⟩, by first | rfl | trivial⟩, by simp [intOf]; go_num⟩
           have q3 : (((s[n]'hl).toNat : Int) == 95) = false := by simpa using c95
           by_cases cd : 48 ≤ ((s[n]'hl).toNat : Int) ∧ ((s[n]'hl).toNat : Int) ≤ 57
           ·obtain ⟨q1, q2⟩ := cd
            by_cases he : e < 10000
            ·go_wp2_with fail
             exact ⟨⟨⟨n + 1, e * 10 + ((s[n]'hl).toNat : Int) - 48, by go_num, by go_num, by omega, by omega, by omega⟩, by first | rfl | trivial⟩, by simp [intOf]; go_num⟩
            ·go_wp2_with fail
             exact ⟨⟨⟨n + 1, e, by go_num, rfl, by omega, e0, e1⟩, by first | rfl | trivial⟩, by simp [intOf]; go_num⟩
           ·have hd : (48 ≤ ((s[n]'hl).toNat : Int) ∧ ¬ ((s[n]'hl).toNat : Int) ≤ 57) ∨ ¬ 48 ≤ ((s[n]'hl).toNat : Int) := by omega
            have hne : ((n : Int) != (s.size : Int)) = true := by rw [bne_iff_ne]; omega
            clear cd
            rcases hd with ⟨d1, d2⟩ | d1
            all_goals
             go_wp2_with fail
             go_ret
             exact SSt.fin (lo := 400000) ⟨hS.out.at_.setDp _, hS.out.dg, hS.out.hd, by (rcases hes with rfl | rfl) <;> (simp only [wrap64]; omega), by (rcases hes with rfl | rfl) <;> (simp only [wrap64]; omega), hS.out.dk.trans (dk_set _ _ _ _)⟩ (by omega) _
          ·have i1 : ¬ (n : Int) < (s.size : Int) := by omega
           have hne : ((n : Int) != (s.size : Int)) = false := by
            have : (n : Int) = (s.size : Int) := by omega
            simpa using this
           go_wp2_with fail
           go_ret
           exact SSt.fin (lo := 400000) ⟨hS.out.at_.setDp _, hS.out.dg, hS.out.hd, by (rcases hes with rfl | rfl) <;> (simp only [wrap64]; omega), by (rcases hes with rfl | rfl) <;> (simp only [wrap64]; omega), hS.out.dk.trans (dk_set _ _ _ _)⟩ (by omega) _
        ·have hq2 : (s.size : Int) ≤ (i : Int) ∨ (∃ h : i < s.size, ((s[i]'h).toNat : Int) < 48) ∨ (∃ h : i < s.size, ¬ ((s[i]'h).toNat : Int) < 48 ∧ 57 < ((s[i]'h).toNat : Int)) := by
          by_cases h : i < s.size
          ·right
           by_cases g : ((s[i]'h).toNat : Int) < 48
           ·exact .inl ⟨h, g⟩
           ·exact .inr ⟨h, g, by
             by_cases g2 : 57 < ((s[i]'h).toNat : Int)
             ·exact g2
             ·exact absurd ⟨h, by omega, by omega⟩ hq⟩
          ·left; omega
         clear hq
         rcases hq2 with g | ⟨h, g⟩ | ⟨h, g, g2⟩
         ·go_wp2_with fail
          go_ret
          exact HNO.out _
         ·have i1 : ¬ (s.size : Int) ≤ (i : Int) := by omega
          have i2 : (0 : Int) ≤ (i : Int) := by omega
          have i3 : (i : Int) < (s.size : Int) := by omega
          go_wp2_with fail
          go_ret
          exact HNO.out _
         ·have i1 : ¬ (s.size : Int) ≤ (i : Int) := by omega
          have i2 : (0 : Int) ≤ (i : Int) := by omega
          have i3 : (i : Int) < (s.size : Int) := by omega
          go_wp2_with fail
          go_ret
          exact HNO.out _
      ·have i3 : (s.size : Int) ≤ (k1 : Int) := by omega
       go_wp2_with (first | (go_at_call 115; refine (Pf.lower_any _ _).mono ?_; rintro e w1 ⟨rfl, rfl⟩) | fail)
       go_ret
       exact HNO.out _
     ·have hx2 : (s.size : Int) ≤ (k : Int) ∨ ∃ h : k < s.size, (Pf.low ((s[k]'h).toNat : Int) == 101) = false := by
       by_cases h : k < s.size
       ·right; exact ⟨h, beq_eq_false_iff_ne.2 fun e => hx ⟨h, e⟩⟩
       ·left; omega
      clear hx
      rcases hx2 with g | ⟨h, g⟩
      ·have i1 : ¬ (k : Int) < (s.size : Int) := by omega
       have hne : ((k : Int) != (s.size : Int)) = false := by
        have : (k : Int) = (s.size : Int) := by omega
        simpa using this
       go_wp2_with fail
       go_ret
       exact HNO.out _
      ·have i1 : (k : Int) < (s.size : Int) := by omega
       have i2 : (0 : Int) ≤ (k : Int) := by omega
       have hne : ((k : Int) != (s.size : Int)) = true := by rw [bne_iff_ne]; omega
       go_wp2_with (first | (go_at_call 115; refine (Pf.lower_any _ _).mono ?_; rintro e w1 ⟨rfl, rfl⟩) | fail)
       go_ret
       exact HNO.out _
end Go.Proofs.YtnccpddjdgndcaaGreatDoor.Dc
end

section
/- THE WALK OF (*decimal).floatBits where its point is near (second part): it answers. -/
namespace Go.Proofs.YtnccpddjdgndcaaGreatDoor.Dc
open Go.RowKit
theorem pn_big (k : Nat) (h : 9 ≤ k) : pn k = 27 := if_neg (by omega)
def TailOk (b : Nat) (w W : World) (s : DS) : Prop := DAt W b s.ds s.dp ∧ Ok s ∧ DK b w W ∧ -60000 ≤ s.dp ∧ s.dp ≤ 1000

set_option maxRecDepth 20000 in
set_option maxHeartbeats 16000000 in
theorem fb_some (b : Nat) (s : DS) (w : World) (hd : DAt w b s.ds s.dp) (hok : Ok s) (B R o c : Nat) (hF : TbW w B R o c) (hB : B ≤ b) (hs : B ≤ w.heap.size) (hlo : -330 ≤ s.dp) (hhi : s.dp ≤ 310) :
  Calls Tryz.prog 155 #[.pointer (some ⟨b, 0, none⟩), (.pointer (some ⟨10, 0, none⟩))] w fun e w' => AnsF e ∧ DK b w w' := by
 obtain ⟨arr, hD, _, _⟩ := id hd
 have y8 := hD.nd
 have y9 := hD.dp
 have hl1 : 1 ≤ s.ds.length := by obtain ⟨d, t, e, _⟩ := hok.hd; rw [e]; simp
 have n1 : ((s.ds.length : Int) == 0) = false := beq_eq_false_iff_ne.2 (by omega)
 have m1 : ¬ (310 : Int) < s.dp := by omega
 have m2 : ¬ s.dp < -330 := by omega
 have hf1 := F1.start hok hlo hhi
 have HF := Lib.hid hF; have HD := Lib.hid hd; have HF1 := Lib.hid hf1
 clear hD hF hok hd hf1
 go_enter Tryz.func155, Tryz.ntmps155
 go_wp2
 apply wp_scope_fwd
 go_hide hQ
 have HQ := Lib.hid hQ
 clear hQ
 go_wp2
 clear y8 y9 hl1 n1 m1 m2
 go_loopg [6] (fl s.ds s.dp) (fun g v6 wr => ∃ (s3 : DS) (e : Int) (k : Nat), v6 = .int .i64 e ∧ Hid (fl s3.ds s3.dp = g) ∧ Hid (F1 s3 e k) ∧ Hid (DAt wr b s3.ds s3.dp ∧ DK b w wr))
 case atStart => exact ⟨s, 0, 0, rfl, Lib.hid rfl, HF1.out, Lib.hid ⟨HD.out, DK.refl _ _⟩⟩
 case round =>
  obtain ⟨s3, e, k, rfl, hg, hf, hdk⟩ := hrel
  have hT := HF.out.dk hdk.out.2 hB hs
  have z3 := hT.tb
  have y9 : wr.cell? ⟨b, 801, none⟩ = some (.int .i64 s3.dp) := by obtain ⟨_, hD, _⟩ := hdk.out.1; exact hD.dp
  obtain ⟨b1, b2, b3, b4⟩ := hf.out.bds
  have HT := Lib.hid hT
  have hT2 := hT
  clear hT
  by_cases hp : 0 < s3.dp
  ·obtain ⟨p, hpp⟩ : ∃ p : Nat, s3.dp = (p : Int) := ⟨s3.dp.toNat, by omega⟩
   have hst := hf.out.step hp
   rw [show s3.dp.toNat = p by omega] at hst
   obtain ⟨k1, k2⟩ := pn_bds p
   have hsh := fun n => shift_right b (pn p) s3 (wr.drewN n) (hdk.out.1.drewN n) hf.out.ok k1 (by omega) ⟨by omega, by omega⟩
   have z4 := fun h => hT2.row p h
   rw [hpp] at y9
   have i0 : (0 : Int) < (p : Int) := by omega
   have i1 : (0 : Int) ≤ (p : Int) := by omega
   have HST := Lib.hid hst
   clear hst hT2 hp
   by_cases hp9 : 9 ≤ p
   ·rw [pn_big p hp9] at hsh HST
    have hsh2 : ∀ n, Calls Tryz.prog 131 #[.pointer (some ⟨b, 0, none⟩), .int .i64 (-27)] (wr.drewN n) _ := hsh
    have i2 : (9 : Int) ≤ (p : Int) := by omega
    have HSH := Lib.hid hsh2
    clear hsh hsh2 z4
    go_wp2_with fail
    go_quiet (fail)
    go_wp2_with (first | (go_at_call 131; (refine (HSH.out _).mono ?_); rintro e w1 ⟨rfl, hw1⟩) | fail)
    obtain ⟨⟨s2, hd2, ho2, hr2, _, _⟩, hk2⟩ := hw1
    obtain rfl := hr2 (by omega)
    obtain ⟨f1, f2⟩ := HST.out
    go_roundg (fl (right 27 s3).ds (right 27 s3).dp)
    case measure => rw [← hg.out]; exact f2
    case rel => exact ⟨right 27 s3, _, k + 1, by go_num, Lib.hid rfl, Lib.hid f1, Lib.hid ⟨hd2, hdk.out.2.trans ((dk_drewN b _ _).trans hk2)⟩⟩
   ·have z5 := z4 (by omega)
    have i2 : ¬ (9 : Int) ≤ (p : Int) := by omega
    have i3 : (p : Int) < 9 := by omega
    generalize pn p = q at *
    have HSH := Lib.hid hsh
    clear hsh z4
    go_wp2_with fail
    go_quiet (fail)
    go_wp2_with fail
    go_quiet (fail)
    go_wp2_with (first | (go_at_call 131; (refine (HSH.out _).mono ?_); rintro e w1 ⟨rfl, hw1⟩) | fail)
    obtain ⟨⟨s2, hd2, ho2, hr2, _, _⟩, hk2⟩ := hw1
    obtain rfl := hr2 (by omega)
    obtain ⟨f1, f2⟩ := HST.out
    go_roundg (fl (right q s3).ds (right q s3).dp)
    case measure => rw [← hg.out]; exact f2
    case rel => exact ⟨right q s3, _, k + 1, by go_num, Lib.hid rfl, Lib.hid f1, Lib.hid ⟨hd2, hdk.out.2.trans ((dk_drewN b _ _).trans hk2)⟩⟩
  ·have hstart := F2.start (e := e) hf.out.ok b3 (by omega)
   have HS2 := Lib.hid hstart
   clear hstart hT2
   go_wp2_with fail
   clear z3 y9
   go_loopg [6] (iv s3.ds s3.dp) (fun g v6 wy => ∃ (s4 : DS) (e4 : Int) (k4 j4 : Nat), v6 = .int .i64 e4 ∧ Hid (iv s4.ds s4.dp = g) ∧ Hid (F2 e s4 e4 k4 j4) ∧ Hid (DAt wy b s4.ds s4.dp ∧ DK b w wy))
   case atStart => exact ⟨s3, e, 0, 0, rfl, Lib.hid rfl, HS2.out, hdk⟩
   case round =>
    obtain ⟨s4, e4, k4, j4, rfl, hg4, hf4, hdk4⟩ := hrel
    clear hg hf hdk HT HS2
    have hT := HF.out.dk hdk4.out.2 hB hs
    have z3 := hT.tb
    have y9 : wr.cell? ⟨b, 801, none⟩ = some (.int .i64 s4.dp) := by obtain ⟨_, hD, _⟩ := hdk4.out.1; exact hD.dp
    obtain ⟨c1, c2, c3, c4⟩ := hf4.out.bds
    obtain ⟨d0, dr, hdd, hd0⟩ : ∃ d0 dr, s4.ds = d0 :: dr ∧ d0 ≤ 9 := by
     obtain ⟨d, t, e, _⟩ := hf4.out.ok.hd
     exact ⟨d, t, e, hf4.out.ok.dg d (by rw [e]; exact List.mem_cons_self)⟩
    have y0 : wr.cell? ⟨b, 0, none⟩ = some (.int .u8 ((48 + d0 : Nat) : Int)) := by
     obtain ⟨arr, hD, hL, _⟩ := hdk4.out.1
     have h := hD.d 0 (by omega)
     have h2 := hL 0 (by rw [hdd]; simp)
     simp only [hdd, List.getElem_cons_zero] at h2
     rw [h2] at h
     exact h
    obtain ⟨v0, hv0⟩ : ∃ v0 : Int, ((48 + d0 : Nat) : Int) = v0 := ⟨_, rfl⟩
    rw [hv0] at y0
    have HDD := Lib.hid hdd; have HV0 := Lib.hid hv0
    have hlc : ∀ n, LcT (wr.drewN n) := fun n => hT.lc.drewN n
    clear hdd
    by_cases hn : s4.dp < 0
    ·obtain ⟨p, hpp⟩ : ∃ p : Nat, s4.dp = -(p : Int) := ⟨(-s4.dp).toNat, by omega⟩
     have hst := hf4.out.step (.inl hn)
     rw [show (-s4.dp).toNat = p by omega] at hst
     obtain ⟨k1, k2⟩ := pn_bds p
     have hsh := fun n => shift_left b (pn p) s4 (wr.drewN n) (hdk4.out.1.drewN n) hf4.out.ok k1 (by omega) ⟨by omega, by omega⟩ (hlc n)
     have z4 := fun h => hT.row p h
     rw [hpp] at y9
     have i0 : 0 < p := by omega
     have i0' : (0 : Int) < (p : Int) := by omega
     have i1 : (0 : Int) ≤ (p : Int) := by omega
     have i4 : -(p : Int) < 0 := by omega
     have HST := Lib.hid hst
     clear hst hT hn hv0 hlc
     by_cases hp9 : 9 ≤ p
     ·rw [pn_big p hp9] at hsh HST
      have hsh2 : ∀ n, Calls Tryz.prog 131 #[.pointer (some ⟨b, 0, none⟩), .int .i64 27] (wr.drewN n) _ := hsh
      have i2 : (9 : Int) ≤ (p : Int) := by omega
      have HSH := Lib.hid hsh2
      clear hsh hsh2 z4
      go_wp2_with fail
      go_quiet (fail)
      go_wp2_with (first | (go_at_call 131; (refine (HSH.out _).mono ?_); rintro e w1 ⟨rfl, hd2, hk2⟩) | fail)
      obtain ⟨⟨k5, j5, f1⟩, f2⟩ := HST.out
      go_roundg (iv (left 27 s4).ds (left 27 s4).dp)
      case measure => rw [← hg4.out]; exact f2
      case rel => exact ⟨left 27 s4, _, k5, j5, by go_num, Lib.hid rfl, Lib.hid f1, Lib.hid ⟨hd2, hdk4.out.2.trans ((dk_drewN b _ _).trans hk2)⟩⟩
     ·have z5 := z4 (by omega)
      have i2 : ¬ (9 : Int) ≤ (p : Int) := by omega
      have i3 : (p : Int) < 9 := by omega
      generalize pn p = q at *
      have HSH := Lib.hid hsh
      clear hsh z4
      go_wp2_with fail
      go_quiet (fail)
      go_wp2_with fail
      go_quiet (fail)
      go_wp2_with (first | (go_at_call 131; (refine (HSH.out _).mono ?_); rintro e w1 ⟨rfl, hd2, hk2⟩) | fail)
      obtain ⟨⟨k5, j5, f1⟩, f2⟩ := HST.out
      go_roundg (iv (left q s4).ds (left q s4).dp)
      case measure => rw [← hg4.out]; exact f2
      case rel => exact ⟨left q s4, _, k5, j5, by go_num, Lib.hid rfl, Lib.hid f1, Lib.hid ⟨hd2, hdk4.out.2.trans ((dk_drewN b _ _).trans hk2)⟩⟩
    ·by_cases hz : s4.dp = 0 ∧ v0 < 53
     ·obtain ⟨hz1, hz2⟩ := hz
      have hh : Half s4 := .inr ⟨hz1, d0, dr, HDD.out, by omega⟩
      have hst := hf4.out.step hh
      rw [hz1] at hst
      have hst2 : (∃ c2 j2, F2 e (left 1 s4) (e4 - ((1 : Nat) : Int)) c2 j2) ∧ iv (left 1 s4).ds (left 1 s4).dp < iv s4.ds 0 := hst
      rw [hz1] at y9 hg4
      have hsh := fun n => shift_left b 1 s4 (wr.drewN n) (hdk4.out.1.drewN n) hf4.out.ok (by omega) (by omega) ⟨by omega, by omega⟩ (hlc n)
      have hsh2 : ∀ n, Calls Tryz.prog 131 #[.pointer (some ⟨b, 0, none⟩), .int .i64 1] (wr.drewN n) _ := hsh
      have z5 : wr.cell? ⟨R, o, none⟩ = some (.int .i64 1) := hT.row 0 (by omega)
      have HSH := Lib.hid hsh2; have HST := Lib.hid hst2
      clear hst hst2 hT hn hv0 hlc hsh hsh2 hh hz1
      go_wp2_with fail
      go_quiet (fail)
      go_wp2_with fail
      go_quiet (fail)
      go_wp2_with (first | (go_at_call 131; (refine (HSH.out _).mono ?_); rintro e w1 ⟨rfl, hd2, hk2⟩) | fail)
      obtain ⟨⟨k5, j5, f1⟩, f2⟩ := HST.out
      go_roundg (iv (left 1 s4).ds (left 1 s4).dp)
      case measure => rw [← hg4.out]; exact f2
      case rel => exact ⟨left 1 s4, _, k5, j5, by go_num, Lib.hid rfl, Lib.hid f1, Lib.hid ⟨hd2, hdk4.out.2.trans ((dk_drewN b _ _).trans hk2)⟩⟩
     ·have hw : (0 < s4.dp ∧ ¬ s4.dp = 0) ∨ (s4.dp = 0 ∧ ¬ v0 < 53) := by omega
      have hok4 := hf4.out.ok
      have HK4 := Lib.hid hok4
      clear hz hf4 hg4 hlc hok4
      have HT4 := Lib.hid hT
      have x0 := hT.i0; have x1 := hT.i1; have x2 := hT.i2
      clear hT z3 hv0 HDD HV0
      rcases hw with ⟨w1, w2⟩ | ⟨w1, w2⟩
      ·have w3 : (s4.dp == 0) = false := beq_eq_false_iff_ne.2 w2
       go_upto_if 111 with fail
       have hdk5 : DK b w wr := hdk4.out.2
       have HDK5 := Lib.hid hdk5
       clear hdk5
       go_cut [6] from 105 to 125 (fun v6 wx => ∃ (s5 : DS) (E : Int), v6 = .int .i64 E ∧ -1022 ≤ E ∧ E ≤ 28000 ∧ Hid (TailOk b w wx s5))
       case first => as_aux_lemma =>
        by_cases he : e4 - 1 < -1022
        ·obtain ⟨N, hN⟩ : ∃ N : Nat, -1022 - (e4 - 1) = (N : Int) := ⟨(-1022 - (e4 - 1)).toNat, by omega⟩
         have hsh := shift_right b N s4 wr hdk4.out.1 HK4.out (by omega) (by omega) ⟨by omega, by omega⟩
         have hE : (e4 - 1) + (N : Int) = -1022 := by omega
         have HSH := Lib.hid hsh; have HE := Lib.hid hE
         clear hsh hE
         go_wp2_with (first | (go_at_call 131; (refine (HSH.out).mono ?_); rintro e w1 ⟨rfl, hw1⟩) | fail)
         go_meet
         obtain ⟨⟨s5, hd5, ho5, _, hl5, hh5⟩, hk5⟩ := hw1
         exact ⟨s5, -1022, by go_num, by omega, by omega, Lib.hid ⟨hd5, ho5, HDK5.out.trans hk5, by omega, by omega⟩⟩
        ·go_wp2_with fail
         go_meet
         exact ⟨s4, e4 - 1, rfl, by omega, by omega, Lib.hid ⟨hdk4.out.1, HK4.out, HDK5.out, by omega, by omega⟩⟩
       case rest => as_aux_lemma =>
        obtain ⟨s5, E, rfl, hE0, hE1, ht⟩ := hcut
        obtain ⟨hd5, ho5, hk5, hl5, hh5⟩ := ht.out
        have hT5 := HF.out.dk hk5 hB hs
        have x0 := hT5.i0
        have x1 := hT5.i1
        have x2 := hT5.i2
        have hQ := HQ.out
        clear HQ y9 y0 w1 w2 ht  hdk4
        by_cases hov : 2047 ≤ E + 1023
        ·obtain ⟨ng, y2⟩ : ∃ ng : Bool, wc.cell? ⟨b, 802, none⟩ = some (.bool ng) := by obtain ⟨_, hD, _⟩ := hd5; exact hD.ng
         have HK5 := Lib.hid hk5
         clear hd5 hT5 hk5 ho5
         cases ng
         ·go_wp2_with fail
          go_quiet (fail)
          go_wp2_with fail
          go_step3
          subst hQ
          refine ⟨_, rfl, ?_⟩
          go_wp2
          go_quiet (fail)
          go_wp2
          go_step3
          go_wp2
          go_quiet (fail)
          go_wp2
          rw [Exit.noGoto_ret]
          go_returns
          exact ⟨⟨_, _, rfl, (or_u64_bd _ _).1, (or_u64_bd _ _).2⟩, HK5.out.trans (by first | exact DK.refl _ _ | exact dk_drewN _ _ _ | exact two_drew _ _ _ _ | exact drews _ _ [_, _, _] | exact drews _ _ [_, _, _, _])⟩
         ·go_wp2_with fail
          go_quiet (fail)
          go_wp2_with fail
          go_step3
          subst hQ
          refine ⟨_, rfl, ?_⟩
          go_wp2
          go_quiet (fail)
          go_wp2
          go_step3
          go_wp2
          go_quiet (fail)
          go_wp2
          go_quiet (fail)
          go_wp2
          rw [Exit.noGoto_ret]
          go_returns
          exact ⟨⟨_, _, rfl, (or_u64_bd _ _).1, (or_u64_bd _ _).2⟩, HK5.out.trans (by first | exact DK.refl _ _ | exact dk_drewN _ _ _ | exact two_drew _ _ _ _ | exact drews _ _ [_, _, _] | exact drews _ _ [_, _, _, _])⟩
        ·have hsh := fun n => shift_left b 53 s5 (wc.drewN n) (hd5.drewN n) ho5 (by omega) (by omega) ⟨by omega, by omega⟩ (hT5.lc.drewN n)
         have hsh2 : ∀ n, Calls Tryz.prog 131 #[.pointer (some ⟨b, 0, none⟩), .int .i64 53] (wc.drewN n) _ := hsh
         have ho6 := left_ok 53 (by omega) s5 ho5
         generalize left 53 s5 = s6 at *
         have HSH := Lib.hid hsh2; have HK5 := Lib.hid hk5; have HO6 := Lib.hid ho6
         clear hsh hsh2 hd5 ho5 hk5 ho6 hT5
         go_wp2_with fail
         go_quiet (fail)
         go_upto_region 32 with (first | (go_at_call 131; (refine (HSH.out _).mono ?_); rintro e w1 ⟨rfl, hd6, hk6⟩) | fail)
         have hk7 : DK b w w1 := HK5.out.trans ((dk_drewN b _ _).trans hk6)
         have hT7 := HF.out.dk hk7 hB hs
         have v0 := hT7.i0
         have v1 := hT7.i1
         have v2 := hT7.i2
         obtain ⟨ng, y2⟩ : ∃ ng : Bool, w1.cell? ⟨b, 802, none⟩ = some (.bool ng) := by obtain ⟨_, hD, _⟩ := hd6; exact hD.ng
         have hri := rint_any b s6.ds s6.dp w1 hd6 HO6.out.dg
         have HRI := Lib.hid hri; have HK7 := Lib.hid hk7
         clear hri hT7 hd6 hk6 x0 x1 x2 HSH
         go_upto_region 33 with (first | (go_at_call 191; (refine (HRI.out).mono ?_); rintro e w2 ⟨⟨m, rfl, hm0, hm1⟩, rfl⟩) | fail)
         by_cases hm : m = 9007199254740992
         ·subst hm
          clear hm0 hm1
          by_cases hov2 : 2047 ≤ E + 1 + 1023
          ·cases ng
           ·go_wp2_with fail
            go_quiet (fail)
            go_wp2_with fail
            go_step3
            subst hQ
            refine ⟨_, rfl, ?_⟩
            go_wp2
            go_quiet (fail)
            go_wp2
            go_step3
            go_wp2
            go_quiet (fail)
            go_wp2
            rw [Exit.noGoto_ret]
            go_returns
            exact ⟨⟨_, _, rfl, (or_u64_bd _ _).1, (or_u64_bd _ _).2⟩, HK7.out.trans (by first | exact DK.refl _ _ | exact dk_drewN _ _ _ | exact two_drew _ _ _ _ | exact drews _ _ [_, _, _] | exact drews _ _ [_, _, _, _])⟩
           ·go_wp2_with fail
            go_quiet (fail)
            go_wp2_with fail
            go_step3
            subst hQ
            refine ⟨_, rfl, ?_⟩
            go_wp2
            go_quiet (fail)
            go_wp2
            go_step3
            go_wp2
            go_quiet (fail)
            go_wp2
            go_quiet (fail)
            go_wp2
            rw [Exit.noGoto_ret]
            go_returns
            exact ⟨⟨_, _, rfl, (or_u64_bd _ _).1, (or_u64_bd _ _).2⟩, HK7.out.trans (by first | exact DK.refl _ _ | exact dk_drewN _ _ _ | exact two_drew _ _ _ _ | exact drews _ _ [_, _, _] | exact drews _ _ [_, _, _, _])⟩
          ·have hb : bits .and .u64 4503599627370496 4503599627370496 = 4503599627370496 := by decide
           cases ng
           ·go_wp2_with fail
            go_quiet (fail)
            go_wp2_with fail
            go_step3
            subst hQ
            refine ⟨_, rfl, ?_⟩
            go_wp2
            go_quiet (fail)
            go_wp2
            rw [Exit.noGoto_ret]
            go_returns
            exact ⟨⟨_, _, rfl, (or_u64_bd _ _).1, (or_u64_bd _ _).2⟩, HK7.out.trans (by first | exact DK.refl _ _ | exact dk_drewN _ _ _ | exact two_drew _ _ _ _ | exact drews _ _ [_, _, _] | exact drews _ _ [_, _, _, _])⟩
           ·go_wp2_with fail
            go_quiet (fail)
            go_wp2_with fail
            go_step3
            subst hQ
            refine ⟨_, rfl, ?_⟩
            go_wp2
            go_quiet (fail)
            go_wp2
            go_quiet (fail)
            go_wp2
            rw [Exit.noGoto_ret]
            go_returns
            exact ⟨⟨_, _, rfl, (or_u64_bd _ _).1, (or_u64_bd _ _).2⟩, HK7.out.trans (by first | exact DK.refl _ _ | exact dk_drewN _ _ _ | exact two_drew _ _ _ _ | exact drews _ _ [_, _, _] | exact drews _ _ [_, _, _, _])⟩
         ·have hmb : (m == 9007199254740992) = false := beq_eq_false_iff_ne.2 hm
          clear hm
          cases hb : (bits .and .u64 m 4503599627370496 == 0)
          ·cases ng
           ·go_wp2_with fail
            go_step3
            subst hQ
            refine ⟨_, rfl, ?_⟩
            go_wp2
            go_quiet (fail)
            go_wp2
            rw [Exit.noGoto_ret]
            go_returns
            exact ⟨⟨_, _, rfl, (or_u64_bd _ _).1, (or_u64_bd _ _).2⟩, HK7.out.trans (by first | exact DK.refl _ _ | exact dk_drewN _ _ _ | exact two_drew _ _ _ _ | exact drews _ _ [_, _, _] | exact drews _ _ [_, _, _, _])⟩
           ·go_wp2_with fail
            go_step3
            subst hQ
            refine ⟨_, rfl, ?_⟩
            go_wp2
            go_quiet (fail)
            go_wp2
            go_quiet (fail)
            go_wp2
            rw [Exit.noGoto_ret]
            go_returns
            exact ⟨⟨_, _, rfl, (or_u64_bd _ _).1, (or_u64_bd _ _).2⟩, HK7.out.trans (by first | exact DK.refl _ _ | exact dk_drewN _ _ _ | exact two_drew _ _ _ _ | exact drews _ _ [_, _, _] | exact drews _ _ [_, _, _, _])⟩
          ·cases ng
           ·go_wp2_with fail
            go_step3
            subst hQ
            refine ⟨_, rfl, ?_⟩
            go_wp2
            go_quiet (fail)
            go_wp2
            rw [Exit.noGoto_ret]
            go_returns
            exact ⟨⟨_, _, rfl, (or_u64_bd _ _).1, (or_u64_bd _ _).2⟩, HK7.out.trans (by first | exact DK.refl _ _ | exact dk_drewN _ _ _ | exact two_drew _ _ _ _ | exact drews _ _ [_, _, _] | exact drews _ _ [_, _, _, _])⟩
           ·go_wp2_with fail
            go_step3
            subst hQ
            refine ⟨_, rfl, ?_⟩
            go_wp2
            go_quiet (fail)
            go_wp2
            go_quiet (fail)
            go_wp2
            rw [Exit.noGoto_ret]
            go_returns
            exact ⟨⟨_, _, rfl, (or_u64_bd _ _).1, (or_u64_bd _ _).2⟩, HK7.out.trans (by first | exact DK.refl _ _ | exact dk_drewN _ _ _ | exact two_drew _ _ _ _ | exact drews _ _ [_, _, _] | exact drews _ _ [_, _, _, _])⟩
      ·have w4 : (s4.dp == 0) = true := by simpa using w1
       have w5 : ¬ s4.dp < 0 := by omega
       go_upto_if 111 with fail
       have hdk5 : DK b w wr := hdk4.out.2
       have HDK5 := Lib.hid hdk5
       clear hdk5
       go_cut [6] from 105 to 125 (fun v6 wx => ∃ (s5 : DS) (E : Int), v6 = .int .i64 E ∧ -1022 ≤ E ∧ E ≤ 28000 ∧ Hid (TailOk b w wx s5))
       case first => as_aux_lemma =>
        by_cases he : e4 - 1 < -1022
        ·obtain ⟨N, hN⟩ : ∃ N : Nat, -1022 - (e4 - 1) = (N : Int) := ⟨(-1022 - (e4 - 1)).toNat, by omega⟩
         have hsh := shift_right b N s4 wr hdk4.out.1 HK4.out (by omega) (by omega) ⟨by omega, by omega⟩
         have hE : (e4 - 1) + (N : Int) = -1022 := by omega
         have HSH := Lib.hid hsh; have HE := Lib.hid hE
         clear hsh hE
         go_wp2_with (first | (go_at_call 131; (refine (HSH.out).mono ?_); rintro e w1 ⟨rfl, hw1⟩) | fail)
         go_meet
         obtain ⟨⟨s5, hd5, ho5, _, hl5, hh5⟩, hk5⟩ := hw1
         exact ⟨s5, -1022, by go_num, by omega, by omega, Lib.hid ⟨hd5, ho5, HDK5.out.trans hk5, by omega, by omega⟩⟩
        ·go_wp2_with fail
         go_meet
         exact ⟨s4, e4 - 1, rfl, by omega, by omega, Lib.hid ⟨hdk4.out.1, HK4.out, HDK5.out, by omega, by omega⟩⟩
       case rest => as_aux_lemma =>
        obtain ⟨s5, E, rfl, hE0, hE1, ht⟩ := hcut
        obtain ⟨hd5, ho5, hk5, hl5, hh5⟩ := ht.out
        have hT5 := HF.out.dk hk5 hB hs
        have x0 := hT5.i0
        have x1 := hT5.i1
        have x2 := hT5.i2
        have hQ := HQ.out
        clear HQ y9 y0 w1 w2 ht  hdk4
        by_cases hov : 2047 ≤ E + 1023
        ·obtain ⟨ng, y2⟩ : ∃ ng : Bool, wc.cell? ⟨b, 802, none⟩ = some (.bool ng) := by obtain ⟨_, hD, _⟩ := hd5; exact hD.ng
         have HK5 := Lib.hid hk5
         clear hd5 hT5 hk5 ho5
         cases ng
         ·go_wp2_with fail
          go_quiet (fail)
          go_wp2_with fail
          go_step3
          subst hQ
          refine ⟨_, rfl, ?_⟩
          go_wp2
          go_quiet (fail)
          go_wp2
          go_step3
          go_wp2
          go_quiet (fail)
          go_wp2
          rw [Exit.noGoto_ret]
          go_returns
          exact ⟨⟨_, _, rfl, (or_u64_bd _ _).1, (or_u64_bd _ _).2⟩, HK5.out.trans (by first | exact DK.refl _ _ | exact dk_drewN _ _ _ | exact two_drew _ _ _ _ | exact drews _ _ [_, _, _] | exact drews _ _ [_, _, _, _])⟩
         ·go_wp2_with fail
          go_quiet (fail)
          go_wp2_with fail
          go_step3
          subst hQ
          refine ⟨_, rfl, ?_⟩
          go_wp2
          go_quiet (fail)
          go_wp2
          go_step3
          go_wp2
          go_quiet (fail)
          go_wp2
          go_quiet (fail)
          go_wp2
          rw [Exit.noGoto_ret]
          go_returns
          exact ⟨⟨_, _, rfl, (or_u64_bd _ _).1, (or_u64_bd _ _).2⟩, HK5.out.trans (by first | exact DK.refl _ _ | exact dk_drewN _ _ _ | exact two_drew _ _ _ _ | exact drews _ _ [_, _, _] | exact drews _ _ [_, _, _, _])⟩
        ·have hsh := fun n => shift_left b 53 s5 (wc.drewN n) (hd5.drewN n) ho5 (by omega) (by omega) ⟨by omega, by omega⟩ (hT5.lc.drewN n)
         have hsh2 : ∀ n, Calls Tryz.prog 131 #[.pointer (some ⟨b, 0, none⟩), .int .i64 53] (wc.drewN n) _ := hsh
         have ho6 := left_ok 53 (by omega) s5 ho5
         generalize left 53 s5 = s6 at *
         have HSH := Lib.hid hsh2; have HK5 := Lib.hid hk5; have HO6 := Lib.hid ho6
         clear hsh hsh2 hd5 ho5 hk5 ho6 hT5
         go_wp2_with fail
         go_quiet (fail)
         go_upto_region 32 with (first | (go_at_call 131; (refine (HSH.out _).mono ?_); rintro e w1 ⟨rfl, hd6, hk6⟩) | fail)
         have hk7 : DK b w w1 := HK5.out.trans ((dk_drewN b _ _).trans hk6)
         have hT7 := HF.out.dk hk7 hB hs
         have v0 := hT7.i0
         have v1 := hT7.i1
         have v2 := hT7.i2
         obtain ⟨ng, y2⟩ : ∃ ng : Bool, w1.cell? ⟨b, 802, none⟩ = some (.bool ng) := by obtain ⟨_, hD, _⟩ := hd6; exact hD.ng
         have hri := rint_any b s6.ds s6.dp w1 hd6 HO6.out.dg
         have HRI := Lib.hid hri; have HK7 := Lib.hid hk7
         clear hri hT7 hd6 hk6 x0 x1 x2 HSH
         go_upto_region 33 with (first | (go_at_call 191; (refine (HRI.out).mono ?_); rintro e w2 ⟨⟨m, rfl, hm0, hm1⟩, rfl⟩) | fail)
         by_cases hm : m = 9007199254740992
         ·subst hm
          clear hm0 hm1
          by_cases hov2 : 2047 ≤ E + 1 + 1023
          ·cases ng
           ·go_wp2_with fail
            go_quiet (fail)
            go_wp2_with fail
            go_step3
            subst hQ
            refine ⟨_, rfl, ?_⟩
            go_wp2
            go_quiet (fail)
            go_wp2
            go_step3
            go_wp2
            go_quiet (fail)
            go_wp2
            rw [Exit.noGoto_ret]
            go_returns
            exact ⟨⟨_, _, rfl, (or_u64_bd _ _).1, (or_u64_bd _ _).2⟩, HK7.out.trans (by first | exact DK.refl _ _ | exact dk_drewN _ _ _ | exact two_drew _ _ _ _ | exact drews _ _ [_, _, _] | exact drews _ _ [_, _, _, _])⟩
           ·go_wp2_with fail
            go_quiet (fail)
            go_wp2_with fail
            go_step3
            subst hQ
            refine ⟨_, rfl, ?_⟩
            go_wp2
            go_quiet (fail)
            go_wp2
            go_step3
            go_wp2
            go_quiet (fail)
            go_wp2
            go_quiet (fail)
            go_wp2
            rw [Exit.noGoto_ret]
            go_returns
            exact ⟨⟨_, _, rfl, (or_u64_bd _ _).1, (or_u64_bd _ _).2⟩, HK7.out.trans (by first | exact DK.refl _ _ | exact dk_drewN _ _ _ | exact two_drew _ _ _ _ | exact drews _ _ [_, _, _] | exact drews _ _ [_, _, _, _])⟩
          ·have hb : bits .and .u64 4503599627370496 4503599627370496 = 4503599627370496 := by decide
           cases ng
           ·go_wp2_with fail
            go_quiet (fail)
            go_wp2_with fail
            go_step3
            subst hQ
            refine ⟨_, rfl, ?_⟩
            go_wp2
            go_quiet (fail)
            go_wp2
            rw [Exit.noGoto_ret]
            go_returns
            exact ⟨⟨_, _, rfl, (or_u64_bd _ _).1, (or_u64_bd _ _).2⟩, HK7.out.trans (by first | exact DK.refl _ _ | exact dk_drewN _ _ _ | exact two_drew _ _ _ _ | exact drews _ _ [_, _, _] | exact drews _ _ [_, _, _, _])⟩
           ·go_wp2_with fail
            go_quiet (fail)
            go_wp2_with fail
            go_step3
            subst hQ
            refine ⟨_, rfl, ?_⟩
            go_wp2
            go_quiet (fail)
            go_wp2
            go_quiet (fail)
            go_wp2
            rw [Exit.noGoto_ret]
            go_returns
            exact ⟨⟨_, _, rfl, (or_u64_bd _ _).1, (or_u64_bd _ _).2⟩, HK7.out.trans (by first | exact DK.refl _ _ | exact dk_drewN _ _ _ | exact two_drew _ _ _ _ | exact drews _ _ [_, _, _] | exact drews _ _ [_, _, _, _])⟩
         ·have hmb : (m == 9007199254740992) = false := beq_eq_false_iff_ne.2 hm
          clear hm
          cases hb : (bits .and .u64 m 4503599627370496 == 0)
          ·cases ng
           ·go_wp2_with fail
            go_step3
            subst hQ
            refine ⟨_, rfl, ?_⟩
            go_wp2
            go_quiet (fail)
            go_wp2
            rw [Exit.noGoto_ret]
            go_returns
            exact ⟨⟨_, _, rfl, (or_u64_bd _ _).1, (or_u64_bd _ _).2⟩, HK7.out.trans (by first | exact DK.refl _ _ | exact dk_drewN _ _ _ | exact two_drew _ _ _ _ | exact drews _ _ [_, _, _] | exact drews _ _ [_, _, _, _])⟩
           ·go_wp2_with fail
            go_step3
            subst hQ
            refine ⟨_, rfl, ?_⟩
            go_wp2
            go_quiet (fail)
            go_wp2
            go_quiet (fail)
            go_wp2
            rw [Exit.noGoto_ret]
            go_returns
            exact ⟨⟨_, _, rfl, (or_u64_bd _ _).1, (or_u64_bd _ _).2⟩, HK7.out.trans (by first | exact DK.refl _ _ | exact dk_drewN _ _ _ | exact two_drew _ _ _ _ | exact drews _ _ [_, _, _] | exact drews _ _ [_, _, _, _])⟩
          ·cases ng
           ·go_wp2_with fail
            go_step3
            subst hQ
            refine ⟨_, rfl, ?_⟩
            go_wp2
            go_quiet (fail)
            go_wp2
            rw [Exit.noGoto_ret]
            go_returns
            exact ⟨⟨_, _, rfl, (or_u64_bd _ _).1, (or_u64_bd _ _).2⟩, HK7.out.trans (by first | exact DK.refl _ _ | exact dk_drewN _ _ _ | exact two_drew _ _ _ _ | exact drews _ _ [_, _, _] | exact drews _ _ [_, _, _, _])⟩
           ·go_wp2_with fail
            go_step3
            subst hQ
            refine ⟨_, rfl, ?_⟩
            go_wp2
            go_quiet (fail)
            go_wp2
            go_quiet (fail)
            go_wp2
            rw [Exit.noGoto_ret]
            go_returns
            exact ⟨⟨_, _, rfl, (or_u64_bd _ _).1, (or_u64_bd _ _).2⟩, HK7.out.trans (by first | exact DK.refl _ _ | exact dk_drewN _ _ _ | exact two_drew _ _ _ _ | exact drews _ _ [_, _, _] | exact drews _ _ [_, _, _, _])⟩
end Go.Proofs.YtnccpddjdgndcaaGreatDoor.Dc
end

section
/- WHAT strconv.readFloat READS OF A DECIMAL TEXT. No walk. -/
namespace Go.Proofs.YtnccpddjdgndcaaGreatDoor.Pf
open Go.RowKit Go.Proofs.YtnccpddjdgndcaaGreatDoor.Fmt
def Sig (r : RS) (D : List UInt8) : Prop := r.m = (dval D : Int) ∧ r.us = false ∧ r.tr = false ∧ r.nd = r.ndm ∧ 0 ≤ r.nd ∧ (r.nd = 0 → dval D = 0) ∧ (1 ≤ r.nd → 10 ^ (r.nd - 1).toNat ≤ dval D)
theorem dval_one (D : List UInt8) (c : UInt8) : dval (D ++ [c]) = dval D * 10 + (c.toNat - 48) := by
 rw [dval_append]; simp [dval]
theorem dval_mono (D i : List UInt8) : dval D ≤ dval (D ++ i) := by
 rw [dval_append]
 have := Nat.pow_pos (n := i.length) (show 0 < 10 by decide)
 have := Nat.le_mul_of_pos_right (dval D) this
 omega
theorem sig_step (D : List UInt8) (c : UInt8) (r : RS) (hc : IsD c) (hs : Sig r D) (hl : dval (D ++ [c]) < 1000000000000000000) :
  ∃ r2, rfStep false (c.toNat : Int) r = some r2 ∧ Sig r2 (D ++ [c]) ∧ r2.dot = r.dot ∧ r2.dig = true ∧ r2.dp - r2.nd = r.dp - r.nd - 1 := by
 obtain ⟨h1, h2, h3, h4, h5, h6, h7⟩ := hs
 unfold IsD at hc
 have hv := dval_one D c
 unfold rfStep
 rw [if_neg (by omega), if_neg (by omega), if_pos (by omega)]
 by_cases hz : (c.toNat : Int) = 48 ∧ r.nd = 0
 ·rw [if_pos hz]
  have := h6 hz.2
  refine ⟨_, rfl, ⟨by simp only; rw [h1, hv]; omega, h2, h3, h4, h5, fun _ => by rw [hv]; omega, fun h => absurd h (by simp only; omega)⟩, rfl, rfl, by simp only; omega⟩
 ·rw [if_neg hz]
  unfold rfDig
  have hn : r.nd ≤ 18 := by
   rcases Int.lt_or_le 18 r.nd with g | g
   ·exfalso
    have a := h7 (by omega)
    have b : 10 ^ 18 ≤ 10 ^ (r.nd - 1).toNat := Nat.pow_le_pow_right (by decide) (by omega)
    rw [show (10 : Nat) ^ 18 = 1000000000000000000 by decide] at b
    omega
   ·exact g
  rw [if_pos (by unfold mostZ; rw [if_neg (by decide)]; omega)]
  have hw : IntKind.u64.wrap (IntKind.u64.wrap (r.m * baseZ false) + ((c.toNat : Int) - 48)) = (dval (D ++ [c]) : Int) := by
   have e : baseZ false = 10 := rfl
   rw [e, h1, hv, IntKind.wrap_u64, IntKind.wrap_u64]
   omega
  refine ⟨_, rfl, ⟨hw, h2, h3, by simp only; omega, by simp only; omega, fun h => by simp only at h; omega, fun _ => ?_⟩, rfl, rfl, by simp only; omega⟩
  simp only
  rw [show (r.nd + 1 - 1).toNat = r.nd.toNat by omega, hv]
  rcases Int.lt_or_le 0 r.nd with g | g
  ·have a := h7 (by omega)
   rw [show r.nd.toNat = (r.nd - 1).toNat + 1 by omega, Nat.pow_succ]
   omega
  ·rw [show r.nd.toNat = 0 by omega]
   have : ¬ (c.toNat : Int) = 48 := fun h => hz ⟨h, by omega⟩
   omega
theorem sig_run : ∀ (i D rest : List UInt8) (r : RS), (∀ c ∈ i, IsD c) → Sig r D → dval (D ++ i) < 1000000000000000000 →
  ∃ r2, rfGo false (i ++ rest) r = rfGo false rest r2 ∧ Sig r2 (D ++ i) ∧ r2.dot = r.dot ∧ (r.dig = true ∨ i ≠ [] → r2.dig = true) ∧ r2.dp - r2.nd = r.dp - r.nd - (i.length : Int)
 | [], D, rest, r, _, hs, _ => ⟨r, rfl, by rw [List.append_nil]; exact hs, rfl, fun h => h.elim id (fun h => absurd rfl h), by simp⟩
 | c :: l, D, rest, r, hi, hs, hl => by
  have e : D ++ c :: l = (D ++ [c]) ++ l := by simp
  rw [e] at hl ⊢
  obtain ⟨r1, g1, g2, g3, g4, g5⟩ := sig_step D c r (hi c (List.mem_cons_self ..)) hs (Nat.lt_of_le_of_lt (dval_mono _ l) hl)
  obtain ⟨r2, k1, k2, k3, k4, k5⟩ := sig_run l (D ++ [c]) rest r1 (fun x hx => hi x (List.mem_cons_of_mem _ hx)) g2 hl
  refine ⟨r2, ?_, k2, k3.trans g3, fun _ => k4 (Or.inl g4), by rw [k5, g5, List.length_cons]; omega⟩
  rw [List.cons_append, rfGo, g1]
  exact k1
theorem sig0 : Sig rs0 [] := ⟨rfl, rfl, rfl, rfl, Int.le_refl _, fun _ => rfl, fun h => absurd h (by decide)⟩
theorem ex_run : ∀ (l : List UInt8) (a : Nat), (∀ c ∈ l, IsD c) → a * 10 ^ l.length + dval l < 10000 → exGo l a false = (((a * 10 ^ l.length + dval l : Nat) : Int), false, [])
 | [], a, _, _ => by simp [exGo, dval]
 | c :: l, a, hi, hl => by
  have hc := hi c (List.mem_cons_self ..)
  unfold IsD at hc
  rw [dval_cons, List.length_cons, Nat.pow_succ] at hl
  have p := Nat.pow_pos (n := l.length) (show 0 < 10 by decide)
  have e : a * (10 ^ l.length * 10) + ((c.toNat - 48) * 10 ^ l.length + dval l) = (a * 10 + (c.toNat - 48)) * 10 ^ l.length + dval l := by grind
  rw [e] at hl
  have ha : a < 10000 := by
   have := Nat.le_mul_of_pos_right (a * 10 + (c.toNat - 48)) p
   omega
  unfold exGo
  rw [if_neg (by omega), if_pos (by omega), if_pos (by omega)]
  have h2 : (a : Int) * 10 + (c.toNat : Int) - 48 = ((a * 10 + (c.toNat - 48) : Nat) : Int) := by omega
  rw [h2, ex_run l _ (fun x hx => hi x (List.mem_cons_of_mem _ hx)) hl, dval_cons, List.length_cons, Nat.pow_succ, e]
def ExpT (s : List UInt8) (e : Int) : Prop := (s = [] ∧ e = 0) ∨ ∃ g ds, s = 101 :: g :: ds ∧ ds ≠ [] ∧ (∀ c ∈ ds, IsD c) ∧ dval ds < 1000 ∧ ((g = 43 ∧ e = (dval ds : Int)) ∨ (g = 45 ∧ e = -(dval ds : Int)))
def Frm (X i f : List UInt8) (e : Int) : Prop := (∀ c ∈ i, IsD c) ∧ (∀ c ∈ f, IsD c) ∧ i ≠ [] ∧ ∃ s, ExpT s e ∧ (X = i ++ 46 :: (f ++ s) ∨ (f = [] ∧ X = i ++ s))
theorem stop_at (s : List UInt8) (e : Int) (h : ExpT s e) (r : RS) : rfGo false s r = (r, s) := by
 rcases h with ⟨rfl, _⟩ | ⟨g, ds, rfl, _⟩
 ·rfl
 ·have : rfStep false ((101 : UInt8).toNat : Int) r = none := rfl
  rw [rfGo, this]
theorem low_e : low ((101 : UInt8).toNat : Int) = 101 := by decide
theorem rf_end (r : RS) (s : List UInt8) (e : Int) (h : ExpT s e) (hu : r.us = false) (ht : r.tr = false) (hd : r.dig = true) :
  rfEnd false (r, s) = some ⟨r.m, if r.m = 0 then 0 else (if r.dot then r.dp else r.nd) + e - r.ndm, false, false, []⟩ := by
 unfold rfEnd
 simp only
 rw [if_neg (by rw [hd]; decide), hu, ht]
 simp only [Bool.false_eq_true, if_false, Int.mul_one]
 rcases h with ⟨rfl, rfl⟩ | ⟨g, ds, rfl, hne, hdd, hl, hg⟩
 ·rw [if_neg (by decide), Int.add_zero]
 ·have h1 : isX false (101 :: g :: ds) = true := by show (low ((101 : UInt8).toNat : Int) == 101) = true; rw [low_e]; rfl
  rw [if_pos h1]
  have hx : exAll (g :: ds) false = some (e, false, []) := by
   obtain ⟨d, t, rfl⟩ := List.exists_cons_of_ne_nil hne
   have hd0 := hdd d (List.mem_cons_self ..)
   unfold IsD at hd0
   have hr := ex_run (d :: t) 0 hdd (by rw [Nat.zero_mul]; omega)
   rw [Nat.zero_mul, Nat.zero_add] at hr
   rcases hg with ⟨rfl, rfl⟩ | ⟨rfl, rfl⟩
   ·have : exSg (43 :: d :: t) = (1, d :: t) := rfl
    unfold exAll
    rw [this]
    simp only
    rw [if_pos (by omega), show exGo (d :: t) 0 false = exGo (d :: t) ((0 : Nat) : Int) false from rfl, hr]
    simp
   ·have : exSg (45 :: d :: t) = (-1, d :: t) := rfl
    unfold exAll
    rw [this]
    simp only
    rw [if_pos (by omega), show exGo (d :: t) 0 false = exGo (d :: t) ((0 : Nat) : Int) false from rfl, hr]
    simp
  rw [List.drop_one, List.tail_cons, hx]
theorem rf_form (X i f : List UInt8) (e : Int) (h : Frm X i f e) (hl : dval (i ++ f) < 1000000000000000000) :
  rfDec X = some ⟨(dval (i ++ f) : Int), if dval (i ++ f) = 0 then 0 else e - (f.length : Int), false, false, []⟩ := by
 obtain ⟨hi, hf, hne, s, hs, hX⟩ := h
 have z : ((dval (i ++ f) : Int) = 0) ↔ (dval (i ++ f) = 0) := by omega
 rcases hX with rfl | ⟨rfl, rfl⟩
 ·obtain ⟨r1, a1, a2, a3, a4, a5⟩ := sig_run i [] (46 :: (f ++ s)) rs0 hi sig0 (Nat.lt_of_le_of_lt (dval_mono i f) hl)
  have hdg := a4 (Or.inr hne)
  have h46 : rfStep false ((46 : UInt8).toNat : Int) r1 = some { r1 with dot := true, dp := r1.nd } := by
   unfold rfStep
   rw [if_neg (by decide), if_pos (by decide), if_neg (by rw [a3]; decide)]
  obtain ⟨b1, b2, b3, b4, b5, b6, b7⟩ := a2
  obtain ⟨r2, c1, c2, c3, c4, c5⟩ := sig_run f ([] ++ i) s { r1 with dot := true, dp := r1.nd } hf ⟨b1, b2, b3, b4, b5, b6, b7⟩ hl
  have hdg2 := c4 (Or.inl hdg)
  unfold rfDec
  rw [a1, rfGo, h46]
  simp only
  rw [c1, stop_at s e hs]
  obtain ⟨d1, d2, d3, d4, _⟩ := c2
  simp only at c5 c3
  rw [rf_end r2 s e hs d2 d3 hdg2, c3, d1, List.nil_append]
  have he : (if (dval (i ++ f) : Int) = 0 then (0 : Int) else (if true = true then r2.dp else r2.nd) + e - r2.ndm) = (if dval (i ++ f) = 0 then 0 else e - (f.length : Int)) := by
   rw [if_pos rfl]
   by_cases h : dval (i ++ f) = 0
   ·rw [if_pos (z.2 h), if_pos h]
   ·rw [if_neg (fun q => h (z.1 q)), if_neg h]; omega
  rw [he]
 ·obtain ⟨r1, a1, a2, a3, a4, a5⟩ := sig_run i [] s rs0 hi sig0 (by simpa using hl)
  have hdg := a4 (Or.inr hne)
  unfold rfDec
  rw [a1, stop_at s e hs]
  obtain ⟨d1, d2, d3, d4, _⟩ := a2
  rw [rf_end r1 s e hs d2 d3 hdg, a3, d1, List.nil_append]
  rw [List.append_nil] at z ⊢
  have he : (if (dval i : Int) = 0 then (0 : Int) else (if rs0.dot = true then r1.dp else r1.nd) + e - r1.ndm) = (if dval i = 0 then 0 else e - (([] : List UInt8).length : Int)) := by
   rw [if_neg (show ¬ rs0.dot = true by decide)]
   by_cases h : dval i = 0
   ·rw [if_pos (z.2 h), if_pos h]
   ·rw [if_neg (fun q => h (z.1 q)), if_neg h, List.length_nil]; omega
  rw [he]
end Go.Proofs.YtnccpddjdgndcaaGreatDoor.Pf
end

section
/- WHAT IS READ OF A NUMBER's OWN TEXT: digits and a power of ten that lie where the number is the nearest one. No walk. -/
namespace Go.Proofs.YtnccpddjdgndcaaGreatDoor.Pf
open Go.RowKit Go.Proofs.YtnccpddjdgndcaaGreatDoor.Fmt Go.Proofs.YtnccpddjdgndcaaGreatDoor.Nt
theorem exps_ne (x : Nat) : exps x ≠ [] := by unfold exps; split <;> simp
theorem expT_of (x : Int) (h0 : -1000 < x) (h1 : x < 1000) : ExpT (101 :: ((if x < 0 then [45] else [43]) ++ exps x.natAbs)) x := by
 right
 have hv := exps_val x.natAbs (by omega)
 by_cases h : x < 0
 ·rw [if_pos h]
  exact ⟨45, exps x.natAbs, rfl, exps_ne _, exps_isD _, by omega, Or.inr ⟨rfl, by omega⟩⟩
 ·rw [if_neg h]
  exact ⟨43, exps x.natAbs, rfl, exps_ne _, exps_isD _, by omega, Or.inl ⟨rfl, by omega⟩⟩
theorem g_frm (D : List UInt8) (dp : Int) (hD : ∀ c ∈ D, IsD c) (h1 : 1 ≤ D.length) (hlo : -400 ≤ dp) (hhi : dp ≤ 400) :
  (∃ i f e, Frm (gText D dp) i f e ∧ dval (i ++ f) = dval D ∧ e - (f.length : Int) = dp - (D.length : Int) ∧ ∃ c ∈ gText D dp, c = 46 ∨ c = 101) ∨
  (∃ i, gText D dp = i ∧ (∀ c ∈ i, IsD c) ∧ i ≠ [] ∧ i.length ≤ 6 ∧ (D.length : Int) ≤ dp ∧ dval i = dval D * 10 ^ (dp - (D.length : Int)).toNat) := by
 unfold gText
 split
 ·left
  have hx := expT_of (dp - 1) (by omega) (by omega)
  obtain ⟨d, r, rfl⟩ : ∃ d r, D = d :: r := by
   cases D with
   | nil => simp at h1
   | cons d r => exact ⟨d, r, rfl⟩
  have hd : ∀ c ∈ [d], IsD c := fun c hc => hD c (by rw [List.mem_singleton] at hc; subst hc; exact List.mem_cons_self ..)
  have hr : ∀ c ∈ r, IsD c := fun c hc => hD c (List.mem_cons_of_mem _ hc)
  cases r with
  | nil =>
   have e : eText [d] dp = [d] ++ 101 :: ((if dp - 1 < 0 then [45] else [43]) ++ exps (dp - 1).natAbs) := by
    unfold eText; simp
   refine ⟨[d], [], dp - 1, ⟨hd, by simp, by simp, _, hx, Or.inr ⟨rfl, e⟩⟩, by simp, by simp, 101, by rw [e]; simp, Or.inr rfl⟩
  | cons x r =>
   have e : eText (d :: x :: r) dp = [d] ++ 46 :: ((x :: r) ++ 101 :: ((if dp - 1 < 0 then [45] else [43]) ++ exps (dp - 1).natAbs)) := by
    unfold eText; simp
   refine ⟨[d], x :: r, dp - 1, ⟨hd, hr, by simp, _, hx, Or.inl e⟩, by simp, by simp; omega, 46, by rw [e]; simp, Or.inl rfl⟩
 ·rename_i hcase
  rcases Int.lt_or_le 0 dp with hp | hp
  ·obtain ⟨q, rfl⟩ : ∃ q : Nat, dp = (q : Int) := ⟨dp.toNat, by omega⟩
   rcases Nat.lt_or_ge q D.length with hq | hq
   ·left
    have e : fText D (q : Int) = D.take q ++ 46 :: D.drop q := by
     have h3 : (-(q : Int)).toNat = 0 := by omega
     have h4 : q - D.length = 0 := by omega
     rw [fText, if_pos hp, if_pos (by omega), Int.toNat_natCast, h3, h4]
     simp
    refine ⟨D.take q, D.drop q, 0, ⟨fun c hc => hD c (List.mem_of_mem_take hc), fun c hc => hD c (List.mem_of_mem_drop hc), ?_, [], Or.inl ⟨rfl, rfl⟩, Or.inl (by rw [e, List.append_nil])⟩, by rw [List.take_append_drop], by rw [List.length_drop]; omega, 46, by rw [e]; simp, Or.inl rfl⟩
    intro h
    have := congrArg List.length h
    rw [List.length_take, List.length_nil] at this
    omega
   ·right
    have e : fText D (q : Int) = D ++ List.replicate (q - D.length) 48 := by
     rw [fText, if_pos hp, if_neg (by omega), Int.toNat_natCast, List.take_of_length_le hq]
     simp
    refine ⟨_, rfl, ?_, ?_, ?_, by omega, ?_⟩
    ·rw [e]; exact app_isD hD (zeros_isD _)
    ·rw [e]; intro h; have := congrArg List.length h; rw [List.length_append, List.length_nil] at this; omega
    ·rw [e, List.length_append, List.length_replicate]; omega
    ·rw [e, dval_append, dval_zeros, List.length_replicate, Nat.add_zero]
     congr 2
     omega
  ·left
   have e : fText D dp = [48] ++ 46 :: (List.replicate (-dp).toNat 48 ++ D) := by
    have h3 : dp.toNat = 0 := by omega
    rw [fText, if_neg (by omega), if_pos (by omega), h3]; simp
   refine ⟨[48], List.replicate (-dp).toNat 48 ++ D, 0, ⟨zeros_isD 1, app_isD (zeros_isD _) hD, by simp, [], Or.inl ⟨rfl, rfl⟩, Or.inl (by rw [e, List.append_nil])⟩, ?_, by simp; omega, 46, by rw [e]; simp, Or.inl rfl⟩
   rw [show [48] ++ (List.replicate (-dp).toNat 48 ++ D) = (List.replicate 1 48 ++ List.replicate (-dp).toNat 48) ++ D by simp, dval_append, List.replicate_append_replicate, dval_zeros, Nat.zero_mul, Nat.zero_add]
theorem dval_lt : ∀ (l : List UInt8), (∀ c ∈ l, IsD c) → dval l < 10 ^ l.length
 | [], _ => by simp [dval]
 | c :: l, h => by
  have hc := h c (List.mem_cons_self ..)
  unfold IsD at hc
  have := dval_lt l (fun x hx => h x (List.mem_cons_of_mem _ hx))
  have m := Nat.mul_le_mul_right (10 ^ l.length) (show c.toNat - 48 ≤ 9 by omega)
  rw [dval_cons, List.length_cons, Nat.pow_succ]
  omega
def P0 (b : Nat) : Int := -sfP (fm b) (fE b)
theorem p0_tab : ∀ k : Nat, k < 2046 → pw2 ((k : Int) - 1074) * pw10 0 ≤ 16 * (pw2 0 * pw10 (lg10 ((k : Int) - 1074))) ∧ pw2 ((k : Int) - 1074) * pw10 0 ≤ 16 * (pw2 0 * pw10 (skew ((k : Int) - 1074))) ∧
  -340 ≤ lg10 ((k : Int) - 1074) ∧ -340 ≤ skew ((k : Int) - 1074) := by decide +kernel
theorem p0_ok (b : Nat) (h : bexp b ≤ 2046) (h0 : bexp b ≠ 0 ∨ bman b ≠ 0) : pw2 (bE b) * pw10 0 ≤ 16 * (pw2 0 * pw10 (P0 b)) ∧ -340 ≤ P0 b := by
 have hb := bman_lt b
 unfold P0
 by_cases hx : bexp b = 0
 ·obtain ⟨z, _, z1, z2, _, hm, hE, hz, _, _⟩ := sub_facts b hx (by omega)
  have hbE : bE b = -1074 := by unfold bE; rw [if_pos hx]
  have hsf : sfP (fm b) (fE b) = -lg10 (-1074) := by unfold sfP; rw [if_neg (by omega), if_neg (by omega)]
  rw [hbE, hsf, Int.neg_neg]
  obtain ⟨t1, _, t3, _⟩ := p0_tab 0 (by decide)
  rw [show ((0 : Nat) : Int) - 1074 = -1074 by decide] at t1 t3
  exact ⟨t1, t3⟩
 ·have hE : fE b = (bexp b : Int) - 1086 := by unfold fE; rw [if_neg hx]
  have hbE : bE b = ((bexp b - 1 : Nat) : Int) - 1074 := by unfold bE; rw [if_neg hx]; omega
  obtain ⟨t1, t2, t3, t4⟩ := p0_tab (bexp b - 1) (by omega)
  have e11 : fE b + 11 = ((bexp b - 1 : Nat) : Int) - 1074 := by omega
  rw [hbE]
  unfold sfP
  rw [e11]
  split
  ·rw [Int.neg_neg]; exact ⟨t2, t4⟩
  ·rw [if_pos (by omega), Int.neg_neg]; exact ⟨t1, t3⟩
theorem short_p0 (b : Nat) : P0 b ≤ (short (fm b) (fE b)).2 := by
 unfold P0 short
 split
 ·simp only; omega
 ·split <;> simp only <;> omega
theorem pw10_309 : 36028797018963968 * pw2 969 * pw10 0 < pw2 0 * pw10 309 := by decide +kernel
theorem pw10_mono {a b : Int} (h : a ≤ b) : pw10 a ≤ pw10 b := Nat.pow_le_pow_right (by decide) (by omega)
theorem inr_small (b m : Nat) (p : Int) (h1 : 1 ≤ b) (h2 : b < 9218868437227405312) (hm : 1 ≤ m) (hr : InR b (m * pw2 0 * pw10 p)) : p ≤ 308 ∧ (P0 b ≤ p → m < 144115188075855872) := by
 obtain ⟨f1, f2, f3, f4, f5, f6, f7⟩ := bM_facts b h1 h2
 obtain ⟨_, r2, _⟩ := hr
 have c4 : (4 * bM b + 2) * pw2 (bE b - 2) * pw10 0 < 36028797018963968 * pw2 (bE b - 2) * pw10 0 := Nat.mul_lt_mul_of_pos_right (Nat.mul_lt_mul_of_pos_right (by omega) (pw2_pos _)) (pw10_pos _)
 have b0 : bexp b = b / 4503599627370496 := by unfold bexp; omega
 have b1 : bman b = b % 4503599627370496 := rfl
 constructor
 ·rcases Int.lt_or_le 308 p with g | g
  ·exfalso
   have a1 := pw10_mono (show (309 : Int) ≤ p by omega)
   have a2 := Nat.mul_le_mul_left (pw2 0) a1
   have a3 := Nat.mul_le_mul_right (pw10 0) (Nat.mul_le_mul_left 36028797018963968 (pw2_mono (show bE b - 2 ≤ 969 by omega)))
   have a4 := pw10_309
   have a5 := Nat.mul_le_mul_right (pw2 0 * pw10 p) hm
   rw [Nat.mul_assoc m] at r2
   omega
  ·exact g
 ·intro hp
  obtain ⟨t1, _⟩ := p0_ok b (by omega) (by omega)
  have a1 := pw10_mono hp
  have a2 := Nat.mul_le_mul_left (pw2 0) a1
  have e : pw2 (bE b) = pw2 (bE b - 2) * 2 ^ 2 := pw2_step _ _ _ (by omega) (by omega)
  have X := Nat.mul_pos (pw2_pos 0) (pw10_pos p)
  rw [e] at t1
  have e2 : pw2 (bE b - 2) * 2 ^ 2 * pw10 0 = 4 * (pw2 (bE b - 2) * pw10 0) := by grind
  have e3 : 36028797018963968 * pw2 (bE b - 2) * pw10 0 = 36028797018963968 * (pw2 (bE b - 2) * pw10 0) := by grind
  have e4 : m * pw2 0 * pw10 p = m * (pw2 0 * pw10 p) := by grind
  rw [e2] at t1
  rw [e3] at c4
  rw [e4] at r2
  have : m * (pw2 0 * pw10 p) < 144115188075855872 * (pw2 0 * pw10 p) := by omega
  exact Nat.lt_of_mul_lt_mul_right this
theorem flt_form (b : Nat) (hb : bexp b ≤ 2046) (h0 : bexp b ≠ 0 ∨ bman b ≠ 0) :
  ∃ X i f e, fltT b = sgn (bneg b) ++ X ∧ Frm X i f e ∧ 1 ≤ dval (i ++ f) ∧ dval (i ++ f) < 144115188075855872 ∧ -340 ≤ e - (f.length : Int) ∧ e - (f.length : Int) ≤ 308 ∧
   InR (b % 9223372036854775808) (dval (i ++ f) * pw2 0 * pw10 (e - (f.length : Int))) := by
 have hn : Num b := ⟨hb, h0⟩
 have hft : ftoaT b = sgn (bneg b) ++ numT b := by unfold ftoaT; rw [if_neg (by omega), if_neg (by omega)]
 obtain ⟨g1, g2, g3, g4⟩ := hn.facts
 obtain ⟨k1, k2, k3, k4⟩ := hn.nd
 have hl := digs_len_le (short (fm b) (fE b)).1
 have hv := digs_val (short (fm b) (fE b)).1
 have hDD := digs_isD (short (fm b) (fE b)).1
 have hp0 := short_p0 b
 have m0 : bman (b % 9223372036854775808) = bman b := by unfold bman; omega
 have x0 : bexp (b % 9223372036854775808) = bexp b := by unfold bexp; omega
 have hsm : b % 9223372036854775808 < 9218868437227405312 ∧ 1 ≤ b % 9223372036854775808 := by unfold bexp bman at *; omega
 have hin := short_in _ hsm.2 hsm.1
 rw [fkey_low] at hin
 have hP : P0 (b % 9223372036854775808) = P0 b := by
  unfold P0
  congr 2
  ·unfold fm fz; rw [m0, x0]
  ·unfold fE fz; rw [m0, x0]
 have small := fun m p => inr_small (b % 9223372036854775808) m p hsm.2 hsm.1
 rw [hP] at small
 have hp1 := (p0_ok b hb h0).2
 have hfk : fkey b = (short (fm b) (fE b)).1 * pw10 (short (fm b) (fE b)).2 := rfl
 rw [hfk] at hin
 have hnum : numT b = gText (digs (short (fm b) (fE b)).1) ((Lib.nDigits (short (fm b) (fE b)).1 : Int) + (short (fm b) (fE b)).2) := rfl
 have hgf := g_frm (digs (short (fm b) (fE b)).1) ((Lib.nDigits (short (fm b) (fE b)).1 : Int) + (short (fm b) (fE b)).2) hDD k1 (by omega) (by omega)
 rw [← hnum] at hgf
 generalize (short (fm b) (fE b)).2 = p at *
 generalize (short (fm b) (fE b)).1 = d at *
 generalize digs d = D at *
 generalize Lib.nDigits d = n at *
 have hD1 : 1 ≤ dval D := by
  rcases Nat.eq_zero_or_pos (dval D) with z | z
  ·rw [z, Nat.zero_mul] at hv; omega
  ·exact z
 rcases hgf with ⟨i, f, e, h1, h2, h3, c, hc, hcc⟩ | ⟨i, h1, h2, h3, h4, h5, h6⟩
 ·have hmk : marked (ftoaT b) = true := by
   rw [marked_iff, hft]
   refine ⟨c, List.mem_append_right _ hc, ?_⟩
   rcases hcc with h | h
   ·exact Or.inl h
   ·exact Or.inr (Or.inl h)
  have hT : InR (b % 9223372036854775808) (dval (i ++ f) * pw2 0 * pw10 (e - (f.length : Int))) := by
   rw [h2, h3]
   have e1 : dval D * pw2 0 * pw10 ((n : Int) + p - (D.length : Int)) = d * pw10 p * pw2 0 := by
    rw [← hv, show (n : Int) + p - (D.length : Int) = p + ((n - D.length : Nat) : Int) by omega, pw10_step p _ (n - D.length) rfl (by omega)]
    grind
   rw [e1]
   exact hin
  have hs := small _ _ (by rw [h2]; exact hD1) hT
  refine ⟨numT b, i, f, e, by unfold fltT; rw [hmk, if_pos rfl, hft], h1, by rw [h2]; exact hD1, hs.2 (by omega), by omega, hs.1, hT⟩
 ·have hmk : marked (ftoaT b) = false := by
   cases hm : marked (ftoaT b)
   ·rfl
   ·exfalso
    rw [marked_iff, hft] at hm
    obtain ⟨c, hc, hcc⟩ := hm
    rcases List.mem_append.1 hc with q | q
    ·unfold sgn at q
     split at q
     ·rw [List.mem_singleton] at q; subst q; revert hcc; decide
     ·cases q
    ·have := h2 c (h1 ▸ q)
     unfold IsD at this
     rcases hcc with rfl | rfl | rfl | rfl <;> revert this <;> decide
  have hm10 : dval (i ++ [48]) = dval i * 10 := dval_end i
  have hT : InR (b % 9223372036854775808) (dval (i ++ [48]) * pw2 0 * pw10 (-1)) := by
   have e1 : dval (i ++ [48]) * pw2 0 * pw10 (-1) = d * pw10 p * pw2 0 := by
    have a1 : pw10 0 = pw10 (-1) * 10 ^ 1 := pw10_step _ _ _ (by omega) (by omega)
    have a2 : dval i * pw10 0 = d * pw10 p := by
     rw [h6, ← hv]
     have q1 := pw10_add ((n : Int) + p - (D.length : Int)) 0 (((n - D.length : Nat) : Int) + p) 0 (by omega) (by omega) (by omega) (by omega) (by omega)
     have q2 : pw10 ((n : Int) + p - (D.length : Int)) = pw10 0 * 10 ^ ((n : Int) + p - (D.length : Int)).toNat := pw10_step _ _ _ (by omega) (by omega)
     have q3 : pw10 ((n : Int) + p - (D.length : Int)) = pw10 p * 10 ^ (n - D.length) := pw10_step _ _ _ (by omega) (by omega)
     rw [show dval D * 10 ^ ((n : Int) + p - (D.length : Int)).toNat * pw10 0 = dval D * (pw10 0 * 10 ^ ((n : Int) + p - (D.length : Int)).toNat) by grind, ← q2, q3]
     grind
    rw [hm10, ← a2, a1]
    grind
   rw [e1]
   exact hin
  have hs := small _ _ (by rw [hm10]; rcases Nat.eq_zero_or_pos (dval i) with z | z; (exfalso; rw [h6] at z; have := Nat.mul_pos hD1 (Nat.pow_pos (n := ((n : Int) + p - (D.length : Int)).toNat) (show 0 < 10 by decide)); omega); omega) hT
  have hlt := dval_lt i h2
  have hle : 10 ^ i.length ≤ 10 ^ 6 := Nat.pow_le_pow_right (by decide) h4
  rw [show (10 : Nat) ^ 6 = 1000000 by decide] at hle
  refine ⟨numT b ++ [46, 48], i, [48], 0, by unfold fltT; rw [hmk, if_neg (by decide), hft, List.append_assoc], ⟨h2, zeros_isD 1, h3, [], Or.inl ⟨rfl, rfl⟩, Or.inl (by rw [h1]; simp)⟩, ?_, by rw [hm10]; omega, by decide, by decide, hT⟩
  rw [hm10, h6]
  have := Nat.mul_pos hD1 (Nat.pow_pos (n := ((n : Int) + p - (D.length : Int)).toNat) (show 0 < 10 by decide))
  omega
end Go.Proofs.YtnccpddjdgndcaaGreatDoor.Pf
end

section
/- More of the shelf's contracts, laid by the kit's tool at this seat's dump, its remarks struck. -/
namespace Go.Proofs
open Go.Shelf
def Tryz.lays137_ren : Go.Shelf.Ren := ⟨fun | 137 => 107 | 217 => 135 | 266 => 101 | n => n, fun | 9 => 9 | 5 => 5 | 3 => 3 | n => n, fun | n => n⟩
theorem Tryz.lays137 : Go.Proofs.Lays.n137 Tryz.prog Tryz.lays137_ren := {
 mixed := by kernel_rfl
 f137 := Tryz.func107.trans (congrArg some (by kernel_rfl))
 f217 := Tryz.func135.trans (congrArg some (by kernel_rfl))
 f266 := Tryz.func101.trans (congrArg some (by kernel_rfl))
 t3 := Tryz.underlying3
 a3 := Tryz.isAgg3
 z3 := Tryz.sizeOf3
 v3 := Tryz.zeroValue3
 t5 := Tryz.underlying5
 a5 := Tryz.isAgg5
 z5 := Tryz.sizeOf5
 v5 := Tryz.zeroValue5
 t9 := Tryz.underlying9
 a9 := Tryz.isAgg9
 z9 := Tryz.sizeOf9
 v9 := Tryz.zeroValue9 }
open Go.RowKit in
theorem Tryz.strings_IndexByte (s : ByteArray) (c : Int) (w : World) :
  Calls Tryz.prog 107 #[.string s, .int .u8 c] w fun e w' => e = .returned (.int .i64 (Lib.indexByte s.data.toList c.toNat.toUInt8)) ∧ w' = w := Any.strings_IndexByte Tryz.lays137 s c w
def Tryz.laysC245_ren : Go.Shelf.Ren := ⟨fun | 245 => 49 | 279 => 80 | 280 => 81 | 281 => 82 | 282 => 83 | 316 => 112 | 171 => 114 | 205 => 113 | 243 => 160 | 246 => 53 | 283 => 87 | 284 => 88 | 285 => 89 | 286 => 90 | 129 => 118 | 317 => 117 | 318 => 119 | 319 => 120 | 320 => 121 | 337 => 161 | 338 => 162 | n => n, fun | 9 => 9 | 3 => 3 | 75 => 52 | 167 => 106 | 4 => 4 | 168 => 107 | 210 => 140 | 37 => 95 | 0 => 0 | 127 => 191 | 145 => 194 | 143 => 192 | 2 => 2 | 171 => 114 | 53 => 80 | 5 => 5 | 173 => 117 | 212 => 144 | 51 => 134 | 20 => 20 | 213 => 145 | 46 => 113 | 232 => 151 | 233 => 219 | 80 => 235 | n => n, fun | 15 => 1 | 16 => 5 | 17 => 6 | 18 => 14 | 19 => 15 | n => n⟩
theorem Tryz.laysC245 : Go.Proofs.LaysC.n245 Tryz.prog Tryz.laysC245_ren := {
 mixed := by kernel_rfl
 f129 := Tryz.func118.trans (congrArg some (by kernel_rfl))
 f171 := Tryz.func114.trans (congrArg some (by kernel_rfl))
 f205 := Tryz.func113.trans (congrArg some (by kernel_rfl))
 f243 := Tryz.func160.trans (congrArg some (by kernel_rfl))
 f245 := Tryz.func49.trans (congrArg some (by kernel_rfl))
 f246 := Tryz.func53.trans (congrArg some (by kernel_rfl))
 f279 := Tryz.func80.trans (congrArg some (by kernel_rfl))
 f280 := Tryz.func81.trans (congrArg some (by kernel_rfl))
 f281 := Tryz.func82.trans (congrArg some (by kernel_rfl))
 f282 := Tryz.func83.trans (congrArg some (by kernel_rfl))
 f283 := Tryz.func87.trans (congrArg some (by kernel_rfl))
 f284 := Tryz.func88.trans (congrArg some (by kernel_rfl))
 f285 := Tryz.func89.trans (congrArg some (by kernel_rfl))
 f286 := Tryz.func90.trans (congrArg some (by kernel_rfl))
 f316 := Tryz.func112.trans (congrArg some (by kernel_rfl))
 f317 := Tryz.func117.trans (congrArg some (by kernel_rfl))
 f318 := Tryz.func119.trans (congrArg some (by kernel_rfl))
 f319 := Tryz.func120.trans (congrArg some (by kernel_rfl))
 f320 := Tryz.func121.trans (congrArg some (by kernel_rfl))
 f337 := Tryz.func161.trans (congrArg some (by kernel_rfl))
 f338 := Tryz.func162.trans (congrArg some (by kernel_rfl))
 t0 := Tryz.underlying0
 a0 := Tryz.isAgg0
 z0 := Tryz.sizeOf0
 v0 := Tryz.zeroValue0
 t2 := Tryz.underlying2
 a2 := Tryz.isAgg2
 z2 := Tryz.sizeOf2
 v2 := Tryz.zeroValue2
 t3 := Tryz.underlying3
 a3 := Tryz.isAgg3
 z3 := Tryz.sizeOf3
 v3 := Tryz.zeroValue3
 t4 := Tryz.underlying4
 a4 := Tryz.isAgg4
 z4 := Tryz.sizeOf4
 v4 := Tryz.zeroValue4
 t5 := Tryz.underlying5
 a5 := Tryz.isAgg5
 z5 := Tryz.sizeOf5
 v5 := Tryz.zeroValue5
 t9 := Tryz.underlying9
 a9 := Tryz.isAgg9
 z9 := Tryz.sizeOf9
 v9 := Tryz.zeroValue9
 t20 := Tryz.underlying20
 a20 := Tryz.isAgg20
 z20 := Tryz.sizeOf20
 v20 := Tryz.zeroValue20
 t37 := Tryz.underlying95
 a37 := Tryz.isAgg95
 z37 := Tryz.sizeOf95
 v37 := Tryz.zeroValue95
 t46 := Tryz.underlying113
 a46 := Tryz.isAgg113
 z46 := Tryz.sizeOf113
 v46 := Tryz.zeroValue113
 t51 := Tryz.underlying134
 a51 := Tryz.isAgg134
 z51 := Tryz.sizeOf134
 v51 := Tryz.zeroValue134
 t53 := Tryz.underlying80
 a53 := Tryz.isAgg80
 z53 := Tryz.sizeOf80
 v53 := Tryz.zeroValue80
 t75 := Tryz.underlying52
 a75 := Tryz.isAgg52
 z75 := Tryz.sizeOf52
 v75 := Tryz.zeroValue52
 t127 := Tryz.underlying191
 a127 := Tryz.isAgg191
 z127 := Tryz.sizeOf191
 v127 := Tryz.zeroValue191
 t143 := Tryz.underlying192
 a143 := Tryz.isAgg192
 z143 := Tryz.sizeOf192
 v143 := Tryz.zeroValue192
 t145 := Tryz.underlying194
 a145 := Tryz.isAgg194
 z145 := Tryz.sizeOf194
 v145 := Tryz.zeroValue194
 t167 := Tryz.underlying106
 a167 := Tryz.isAgg106
 z167 := Tryz.sizeOf106
 v167 := Tryz.zeroValue106
 t168 := Tryz.underlying107
 a168 := Tryz.isAgg107
 z168 := Tryz.sizeOf107
 v168 := Tryz.zeroValue107
 t171 := Tryz.underlying114
 a171 := Tryz.isAgg114
 z171 := Tryz.sizeOf114
 v171 := Tryz.zeroValue114
 t173 := Tryz.underlying117
 a173 := Tryz.isAgg117
 z173 := Tryz.sizeOf117
 v173 := Tryz.zeroValue117
 t210 := Tryz.underlying140
 a210 := Tryz.isAgg140
 z210 := Tryz.sizeOf140
 v210 := Tryz.zeroValue140
 t212 := Tryz.underlying144
 a212 := Tryz.isAgg144
 z212 := Tryz.sizeOf144
 v212 := Tryz.zeroValue144
 t213 := Tryz.underlying145
 a213 := Tryz.isAgg145
 z213 := Tryz.sizeOf145
 t232 := Tryz.underlying151
 a232 := Tryz.isAgg151
 z232 := Tryz.sizeOf151
 v232 := Tryz.zeroValue151
 t233 := Tryz.underlying219
 a233 := Tryz.isAgg219
 z233 := Tryz.sizeOf219
 v233 := Tryz.zeroValue219
 g15 := by kernel_rfl
 g16 := by kernel_rfl
 g17 := by kernel_rfl
 g18 := by kernel_rfl
 g19 := by kernel_rfl
 t80 := Tryz.underlying235
 a80 := Tryz.isAgg235
 z80 := Tryz.sizeOf235
 v80 := Tryz.zeroValue235
 i0 := by kernel_rfl
 i2 := by kernel_rfl
 i3 := by kernel_rfl
 i4 := by kernel_rfl
 i5 := by kernel_rfl
 i9 := by kernel_rfl
 i20 := by kernel_rfl
 i37 := by kernel_rfl
 i46 := by kernel_rfl
 i51 := by kernel_rfl
 i53 := by kernel_rfl
 i75 := by kernel_rfl
 i80 := by kernel_rfl
 i127 := by kernel_rfl
 i143 := by kernel_rfl
 i145 := by kernel_rfl
 i167 := by kernel_rfl
 i168 := by kernel_rfl
 i171 := by kernel_rfl
 i173 := by kernel_rfl
 i210 := by kernel_rfl
 i212 := by kernel_rfl
 i232 := by kernel_rfl
 i233 := by kernel_rfl
 m15 := by kernel_rfl
 m16 := by kernel_rfl
 m17 := by kernel_rfl
 m18 := by kernel_rfl
 m19 := by kernel_rfl
 c0 := by kernel_rfl
 c2 := by kernel_rfl
 c3 := by kernel_rfl
 c4 := by kernel_rfl
 c5 := by kernel_rfl
 c9 := by kernel_rfl
 c20 := by kernel_rfl
 c37 := by kernel_rfl
 c46 := by kernel_rfl
 c51 := by kernel_rfl
 c53 := by kernel_rfl
 c75 := by kernel_rfl
 c80 := by kernel_rfl
 c127 := by kernel_rfl
 c143 := by kernel_rfl
 c145 := by kernel_rfl
 c167 := by kernel_rfl
 c168 := by kernel_rfl
 c171 := by kernel_rfl
 c173 := by kernel_rfl
 c210 := by kernel_rfl
 c212 := by kernel_rfl
 c213 := by kernel_rfl
 c232 := by kernel_rfl
 c233 := by kernel_rfl }
open Go.RowKit in
theorem Tryz.strconv_toError_syntax (fn s : ByteArray) (base bits : Int) (ev : Value) (w : World) (hlim : s.size ≤ 281474976710656) (hv : w.cell? ⟨1, 0, none⟩ = some ev) (hev : ev = .nilIface ∨ ∃ te pe, ev = .iface te pe) :
  Calls Tryz.prog 49 #[.string fn, .string s, .int .i64 base, .int .i64 bits, .iface 106 (.int .i64 2)] w fun e w' => ∃ N, e = .returned (.iface 107 (.pointer (some ⟨N, 0, none⟩))) ∧ w.heap.size ≤ N ∧ w'.heap[N]? = some (.cells #[.string fn, .string s, ev] 140 (0, 0)) ∧ Below w.heap.size w w' := Any.strconv_toError_syntax Tryz.laysC245 fn s base bits ev w hlim hv hev
open Go.RowKit in
theorem Tryz.strconv_toError_range (fn s : ByteArray) (base bits : Int) (ev : Value) (w : World) (hlim : s.size ≤ 281474976710656) (hv : w.cell? ⟨5, 0, none⟩ = some ev) (hev : ev = .nilIface ∨ ∃ te pe, ev = .iface te pe) :
  Calls Tryz.prog 49 #[.string fn, .string s, .int .i64 base, .int .i64 bits, .iface 106 (.int .i64 1)] w fun e w' => ∃ N, e = .returned (.iface 107 (.pointer (some ⟨N, 0, none⟩))) ∧ w.heap.size ≤ N ∧ w'.heap[N]? = some (.cells #[.string fn, .string s, ev] 140 (0, 0)) ∧ Below w.heap.size w w' := Any.strconv_toError_range Tryz.laysC245 fn s base bits ev w hlim hv hev
open Go.RowKit in
theorem Tryz.strconv_ParseInt_10_at64_syntax (s : ByteArray) (hlim : s.size ≤ 281474976710656) (h : Lib.parseIntB 64 s.data.toList = Lib.NumEnd.syntax) (ev : Value) (w : World) (hv : w.cell? ⟨1, 0, none⟩ = some ev) (hev : ev = .nilIface ∨ ∃ te pe, ev = .iface te pe) :
  Calls Tryz.prog 33 #[.string s, .int .i64 10, .int .i64 64] w fun e w' => ∃ N, e = .returned (.tuple #[.int .i64 (0), .iface 107 (.pointer (some ⟨N, 0, none⟩))]) ∧ w.heap.size ≤ N ∧ w'.heap[N]? = some (.cells #[.string ⟨#[80, 97, 114, 115, 101, 73, 110, 116]⟩, .string s, ev] 140 (0, 0)) ∧ Below w.heap.size w w' := Any.strconv_ParseInt_10_at64_syntax Tryz.laysC174 s hlim h ev w hv hev
open Go.RowKit in
theorem Tryz.strconv_ParseInt_10_at64_range (s : ByteArray) (hlim : s.size ≤ 281474976710656) (h : Lib.parseIntB 64 s.data.toList = .range) (ev : Value) (w : World) (hv : w.cell? ⟨5, 0, none⟩ = some ev) (hev : ev = .nilIface ∨ ∃ te pe, ev = .iface te pe) :
  Calls Tryz.prog 33 #[.string s, .int .i64 10, .int .i64 64] w fun e w' => ∃ N, e = .returned (.tuple #[.int .i64 (Lib.intSat 64 s.data.toList), .iface 107 (.pointer (some ⟨N, 0, none⟩))]) ∧ w.heap.size ≤ N ∧ w'.heap[N]? = some (.cells #[.string ⟨#[80, 97, 114, 115, 101, 73, 110, 116]⟩, .string s, ev] 140 (0, 0)) ∧ Below w.heap.size w w' := Any.strconv_ParseInt_10_at64_range Tryz.laysC174 s hlim h ev w hv hev
def Tryz.lays152_ren : Go.Shelf.Ren := ⟨fun | 152 => 76 | 137 => 107 | 119 => 105 | 224 => 108 | 225 => 109 | 217 => 135 | 266 => 101 | n => n, fun | 9 => 9 | 21 => 21 | 3 => 3 | 4 => 4 | 5 => 5 | 0 => 0 | 46 => 113 | n => n, fun | n => n⟩
theorem Tryz.lays152 : Go.Proofs.Lays.n152 Tryz.prog Tryz.lays152_ren := {
 mixed := by kernel_rfl
 f119 := Tryz.func105.trans (congrArg some (by kernel_rfl))
 f137 := Tryz.func107.trans (congrArg some (by kernel_rfl))
 f152 := Tryz.func76.trans (congrArg some (by kernel_rfl))
 f217 := Tryz.func135.trans (congrArg some (by kernel_rfl))
 f224 := Tryz.func108.trans (congrArg some (by kernel_rfl))
 f225 := Tryz.func109.trans (congrArg some (by kernel_rfl))
 f266 := Tryz.func101.trans (congrArg some (by kernel_rfl))
 t0 := Tryz.underlying0
 a0 := Tryz.isAgg0
 z0 := Tryz.sizeOf0
 v0 := Tryz.zeroValue0
 t3 := Tryz.underlying3
 a3 := Tryz.isAgg3
 z3 := Tryz.sizeOf3
 v3 := Tryz.zeroValue3
 t4 := Tryz.underlying4
 a4 := Tryz.isAgg4
 z4 := Tryz.sizeOf4
 v4 := Tryz.zeroValue4
 t5 := Tryz.underlying5
 a5 := Tryz.isAgg5
 z5 := Tryz.sizeOf5
 v5 := Tryz.zeroValue5
 t9 := Tryz.underlying9
 a9 := Tryz.isAgg9
 z9 := Tryz.sizeOf9
 v9 := Tryz.zeroValue9
 t21 := Tryz.underlying21
 a21 := Tryz.isAgg21
 z21 := Tryz.sizeOf21
 v21 := Tryz.zeroValue21
 t46 := Tryz.underlying113
 a46 := Tryz.isAgg113
 z46 := Tryz.sizeOf113
 v46 := Tryz.zeroValue113 }
open Go.RowKit Go.Lib in
theorem Tryz.strings_IndexRune_ascii (s : ByteArray) (r : Int) (w : World) (h0 : 0 ≤ r) (h1 : r < 128) :
  Calls Tryz.prog 76 #[.string s, .int .i32 r] w fun e w' => e = .returned (.int .i64 (Lib.indexByte s.data.toList r.toNat.toUInt8)) ∧ w' = w := Any.strings_IndexRune_ascii Tryz.lays152 s r w h0 h1
def Tryz.lays226_ren : Go.Shelf.Ren := ⟨fun | 226 => 77 | n => n, fun | 3 => 3 | 4 => 4 | n => n, fun | n => n⟩
theorem Tryz.lays226 : Go.Proofs.Lays.n226 Tryz.prog Tryz.lays226_ren := {
 mixed := by kernel_rfl
 f226 := Tryz.func77.trans (congrArg some (by kernel_rfl))
 t3 := Tryz.underlying3
 a3 := Tryz.isAgg3
 z3 := Tryz.sizeOf3
 v3 := Tryz.zeroValue3
 t4 := Tryz.underlying4
 a4 := Tryz.isAgg4
 z4 := Tryz.sizeOf4
 v4 := Tryz.zeroValue4 }
open Go.RowKit Go.Lib in
theorem Tryz.strings_shouldUseASCIISet (n : Int) (w : World) :
  Calls Tryz.prog 77 #[.int .i64 n] w fun e w' => e = .returned (.bool (decide (8 < n))) ∧ w' = w := Any.strings_shouldUseASCIISet Tryz.lays226 n w
def Tryz.lays153_ren : Go.Shelf.Ren := ⟨fun | 153 => 47 | 152 => 76 | 226 => 77 | 227 => 59 | 228 => 78 | 137 => 107 | 119 => 105 | 224 => 108 | 225 => 109 | 217 => 135 | 266 => 101 | n => n, fun | 9 => 9 | 3 => 3 | 4 => 4 | 5 => 5 | 21 => 21 | 117 => 86 | 116 => 85 | 0 => 0 | 46 => 113 | 124 => 89 | n => n, fun | n => n⟩
theorem Tryz.lays153 : Go.Proofs.Lays.n153 Tryz.prog Tryz.lays153_ren := {
 mixed := by kernel_rfl
 f119 := Tryz.func105.trans (congrArg some (by kernel_rfl))
 f137 := Tryz.func107.trans (congrArg some (by kernel_rfl))
 f152 := Tryz.func76.trans (congrArg some (by kernel_rfl))
 f153 := Tryz.func47.trans (congrArg some (by kernel_rfl))
 f217 := Tryz.func135.trans (congrArg some (by kernel_rfl))
 f224 := Tryz.func108.trans (congrArg some (by kernel_rfl))
 f225 := Tryz.func109.trans (congrArg some (by kernel_rfl))
 f226 := Tryz.func77.trans (congrArg some (by kernel_rfl))
 f227 := Tryz.func59.trans (congrArg some (by kernel_rfl))
 f228 := Tryz.func78.trans (congrArg some (by kernel_rfl))
 f266 := Tryz.func101.trans (congrArg some (by kernel_rfl))
 t0 := Tryz.underlying0
 a0 := Tryz.isAgg0
 z0 := Tryz.sizeOf0
 v0 := Tryz.zeroValue0
 t3 := Tryz.underlying3
 a3 := Tryz.isAgg3
 z3 := Tryz.sizeOf3
 v3 := Tryz.zeroValue3
 t4 := Tryz.underlying4
 a4 := Tryz.isAgg4
 z4 := Tryz.sizeOf4
 v4 := Tryz.zeroValue4
 t5 := Tryz.underlying5
 a5 := Tryz.isAgg5
 z5 := Tryz.sizeOf5
 v5 := Tryz.zeroValue5
 t9 := Tryz.underlying9
 a9 := Tryz.isAgg9
 z9 := Tryz.sizeOf9
 v9 := Tryz.zeroValue9
 t21 := Tryz.underlying21
 a21 := Tryz.isAgg21
 z21 := Tryz.sizeOf21
 v21 := Tryz.zeroValue21
 t46 := Tryz.underlying113
 a46 := Tryz.isAgg113
 z46 := Tryz.sizeOf113
 v46 := Tryz.zeroValue113
 t116 := Tryz.underlying85
 a116 := Tryz.isAgg85
 z116 := Tryz.sizeOf85
 t117 := Tryz.underlying86
 a117 := Tryz.isAgg86
 z117 := Tryz.sizeOf86
 v117 := Tryz.zeroValue86
 t124 := Tryz.underlying89
 a124 := Tryz.isAgg89
 z124 := Tryz.sizeOf89
 v124 := Tryz.zeroValue89 }
open Go.RowKit Go.Lib in
theorem Tryz.strings_IndexAny_long (hv116 : ∀ w, (zeroValue 85).run Tryz.prog w = .ok (.agg (Array.replicate 256 (.bool false))) w) (s chars : ByteArray) (w : World) (h2 : 2 ≤ chars.size) (h8 : 8 < s.size) (hs : s.size < 4294967281) (hcs : chars.size < 4294967281) (hascii : ∀ (j : Nat) b, chars.data.toList[j]? = some b → b.toNat < 128) :
  Calls Tryz.prog 47 #[.string s, .string chars] w fun e w' => e = .returned (.int .i64 (Lib.indexAny s.data.toList chars.data.toList)) ∧ w' = ((w.alloc (.cells (Lib.setCells chars.data.toList) 85)).alloc (.cells (Lib.setCells chars.data.toList) 85)) := Any.strings_IndexAny_long Tryz.lays153 hv116 (by kernel_rfl) s chars w h2 h8 hs hcs hascii
end Go.Proofs
end

section
/- THE WALK OF strings.ContainsAny(s, ".eIN") AT ANY BYTES: it answers. -/
namespace Go.Proofs.YtnccpddjdgndcaaGreatDoor.Ira
open Go.RowKit
theorem enc_ways (r : Nat) (h : 128 ≤ r) (hv : Lib.validRune (r : Int) = true) : ∃ c : UInt8, 128 ≤ c.toNat ∧ ((∃ a, Utf8.encode (r : Int) = ⟨#[a, c]⟩) ∨ (∃ a b, Utf8.encode (r : Int) = ⟨#[a, b, c]⟩) ∨ ∃ a b d, Utf8.encode (r : Int) = ⟨#[a, b, d, c]⟩) := by
 have hv2 : Utf8.valid (r : Int) = true := by
  unfold Lib.validRune at hv
  have := of_decide_eq_true hv
  simp [Utf8.valid]; omega
 have c1 : ¬ r < 128 := by omega
 refine ⟨UInt8.ofNat (128 + r % 64), by rw [UInt8.toNat_ofNat']; omega, ?_⟩
 by_cases c2 : r < 2048
 ·exact .inl ⟨_, by simp [Utf8.encode, hv2, c1, c2]; rfl⟩
 by_cases c3 : r < 65536
 ·exact .inr (.inl ⟨_, _, by simp [Utf8.encode, hv2, c1, c2, c3]; exact ⟨rfl, rfl⟩⟩)
 ·exact .inr (.inr ⟨_, _, _, by simp [Utf8.encode, hv2, c1, c2, c3]; exact ⟨rfl, rfl, rfl⟩⟩)
theorem ib_neg : ∀ (l : List UInt8) (c : UInt8), c ∉ l → Lib.indexByte l c < 0 := fun l c h => by
 have h1 := Lib.contains_iff_indexByte l c
 have h2 : l.contains c = false := by simpa using h
 rw [h2] at h1
 have := of_decide_eq_false h1.symm
 omega
theorem c_ascii (i : Nat) (h : i < (⟨#[46, 101, 73, 78]⟩ : ByteArray).size) : ((⟨#[46, 101, 73, 78]⟩ : ByteArray)[i]'h).toNat < 128 := by
 have h4 : i < 4 := h
 match i, h4 with
 | 0, _ => show (46 : UInt8).toNat < 128; decide
 | 1, _ => show (101 : UInt8).toNat < 128; decide
 | 2, _ => show (73 : UInt8).toNat < 128; decide
 | 3, _ => show (78 : UInt8).toNat < 128; decide
theorem c_mem (c : UInt8) (h : 128 ≤ c.toNat) : c ∉ [46, 101, 73, 78] := fun hm => by
 simp only [List.mem_cons, List.not_mem_nil, or_false] at hm
 rcases hm with rfl | rfl | rfl | rfl <;> exact absurd h (by decide)
theorem ib_c (a b : Nat) (c : UInt8) (h : 128 ≤ c.toNat) : Lib.indexByte ((⟨#[46, 101, 73, 78]⟩ : ByteArray).extract a b).data.toList ((c.toNat : Int)).toNat.toUInt8 < 0 := by
 have hb : ((c.toNat : Int)).toNat.toUInt8 = c := by simp
 rw [hb]
 refine ib_neg _ _ fun hm => c_mem c h ?_
 rw [ByteArray.data_extract] at hm
 rw [Array.toList_extract] at hm
 exact List.mem_of_mem_drop (List.mem_of_mem_take hm)
theorem ixc1 (h : 1 < (⟨#[46, 101, 73, 78]⟩ : ByteArray).size) : (⟨#[46, 101, 73, 78]⟩ : ByteArray)[1]'h = 101 := rfl
theorem ixc2 (h : 2 < (⟨#[46, 101, 73, 78]⟩ : ByteArray).size) : (⟨#[46, 101, 73, 78]⟩ : ByteArray)[2]'h = 73 := rfl
theorem ixc3 (h : 3 < (⟨#[46, 101, 73, 78]⟩ : ByteArray).size) : (⟨#[46, 101, 73, 78]⟩ : ByteArray)[3]'h = 78 := rfl
theorem ixe1 (a c : UInt8) (h : 1 < (⟨#[a, c]⟩ : ByteArray).size) : (⟨#[a, c]⟩ : ByteArray)[1]'h = c := rfl
theorem ixe2 (a b c : UInt8) (h : 2 < (⟨#[a, b, c]⟩ : ByteArray).size) : (⟨#[a, b, c]⟩ : ByteArray)[2]'h = c := rfl
theorem ixe3 (a b d c : UInt8) (h : 3 < (⟨#[a, b, d, c]⟩ : ByteArray).size) : (⟨#[a, b, d, c]⟩ : ByteArray)[3]'h = c := rfl
theorem wr2 : IntKind.i64.wrap 2 = 2 := by decide
theorem wr3 : IntKind.i64.wrap 3 = 3 := by decide
theorem wr4 : IntKind.i64.wrap 4 = 4 := by decide
attribute [local go_sem] wr2 wr3 wr4
theorem szc : (⟨#[46, 101, 73, 78]⟩ : ByteArray).size = 4 := rfl
attribute [local go_sem] szc
attribute [local go_sem] ixc1 ixc2 ixc3 ixe1 ixe2 ixe3
theorem inBlock_ret {id : Nat} {Q : Exit → Act → World → Prop} {a : Act} {w : World} : Exit.inBlock id Q .ret a w = Q .ret a w := rfl
theorem then_ret {K : Act → World → Prop} {Q : Exit → Act → World → Prop} {a : Act} {w : World} : Exit.then K Q .ret a w = Q .ret a w := rfl
def AnsI (e : Ending) : Prop := ∃ o : Int, e = .returned (.int .i64 o)
set_option maxRecDepth 200000 in
set_option maxHeartbeats 2000000 in
theorem irune_any (r : Nat) (hr : r ≤ 2147483647) (w : World) : Calls Tryz.prog 76 #[.string (⟨#[46, 101, 73, 78]⟩ : ByteArray), .int .i32 (r : Int)] w fun e w' => AnsI e ∧ Below w.heap.size w w' := by
 by_cases h1 : r < 128
 ·refine (Tryz.strings_IndexRune_ascii _ _ w (by omega) (by omega)).mono ?_
  rintro e w' ⟨rfl, rfl⟩
  exact ⟨⟨_, rfl⟩, Below.refl _ _⟩
 have i0 : (0 : Int) ≤ (r : Int) := by omega
 have i1 : ¬ (r : Int) < 128 := by omega
 by_cases h2 : r = 65533
 ·subst h2
  go_enter Tryz.func76, Tryz.ntmps76
  go_wp2_with fail
  go_loopg [5, 6] 4 (fun g _ _ wx => ∃ i : Nat, i + g = 4 ∧ wx = w.iter (⟨#[46, 101, 73, 78]⟩ : ByteArray) i)
  case atStart => exact ⟨0, rfl, rfl⟩
  case round =>
   obtain ⟨i, hig, rfl⟩ := hrel
   cases gk with
   | zero =>
    obtain rfl : i = 4 := by omega
    have hnx := run_next_end (P := Tryz.prog) w (⟨#[46, 101, 73, 78]⟩ : ByteArray) 4
    go_wp2_with fail
    go_returns
    exact ⟨⟨_, rfl⟩, (Below.refl _ w).alloc (Nat.le_refl _) _⟩
   | succ g =>
    have hi : i < (⟨#[46, 101, 73, 78]⟩ : ByteArray).size := by show i < 4; omega
    have hx := c_ascii i hi
    have hnx := fun ty => run_next_ascii (P := Tryz.prog) w (⟨#[46, 101, 73, 78]⟩ : ByteArray) i ty hi hx
    have b1 : (((((⟨#[46, 101, 73, 78]⟩ : ByteArray)[i]'hi).toNat : Nat) : Int) == 65533) = false := beq_eq_false_iff_ne.2 (by omega)
    generalize ((⟨#[46, 101, 73, 78]⟩ : ByteArray)[i]'hi).toNat = q at *
    go_wp2_with fail
    go_roundg g
    case measure => omega
    case rel => exact ⟨i + 1, by omega, rfl⟩
 have i2 : ((r : Int) == 65533) = false := beq_eq_false_iff_ne.2 (by omega)
 cases hv : Lib.validRune (r : Int)
 ·have HV := Lib.hid hv; clear hv
  go_enter Tryz.func76, Tryz.ntmps76
  go_wp2_with (first | (go_at_call 105; refine (Tryz.utf8_ValidRune _ _).mono ?_; rintro e w1 ⟨rfl, rfl⟩; rw [HV.out]) | fail)
  go_returns
  exact ⟨⟨_, rfl⟩, Below.refl _ _⟩
 ·obtain ⟨c, hc, hw⟩ := enc_ways r (by omega) hv
  have HV := Lib.hid hv; clear hv
  have m1 : ((101 : Int) != (c.toNat : Int)) = true := bne_iff_ne.2 (by omega)
  have m2 : ((73 : Int) != (c.toNat : Int)) = true := bne_iff_ne.2 (by omega)
  have m3 : ((78 : Int) != (c.toNat : Int)) = true := bne_iff_ne.2 (by omega)
  rcases hw with ⟨a, he⟩ | ⟨a, b, he⟩ | ⟨a, b, d, he⟩
  ·have HE := Lib.hid he; clear he
   go_enter Tryz.func76, Tryz.ntmps76
   go_wp2_with (first | (go_at_call 105; refine (Tryz.utf8_ValidRune _ _).mono ?_; rintro e w1 ⟨rfl, rfl⟩; rw [HV.out]) | fail)
   go_step3
   go_upto_region 5 with (first | (simp only [HE.out]) | fail)
   go_loopw [9] (fun v9 wx => v9 = .int .i64 1 ∧ w1 = wx) (fun _ _ => 0)
   case atStart => exact ⟨rfl, rfl⟩
   case round =>
    obtain ⟨rfl, rfl⟩ := hrel
    go_wp2_with fail
    go_step3
    go_upto_region 6 with fail
    go_region
    obtain ⟨o, ho⟩ : ∃ o, Lib.indexByte ((⟨#[46, 101, 73, 78]⟩ : ByteArray).extract 2 4).data.toList ((c.toNat : Int)).toNat.toUInt8 = o := ⟨_, rfl⟩
    have hneg : o < 0 := by rw [← ho]; exact ib_c 2 4 c hc
    have HO := Lib.hid ho
    clear ho
    go_upto_region 7 with fail
    go_quiet ((go_at_call 107; refine (Tryz.strings_IndexByte _ _ _).mono ?_; rintro e w2 ⟨rfl, rfl⟩; (first | rw [HO.out] | rw [show ∀ x, Lib.indexByte (ByteArray.empty).data.toList x = -1 from fun _ => rfl]); exact ⟨rfl, _, rfl⟩))
    go_wp2_with fail
    simp +zetaDelta only [inBlock_ret, Exit.noGoto_ret, then_ret]
    go_returns
    exact ⟨⟨_, rfl⟩, rfl, rfl, rfl, Nat.le_refl _, fun _ _ => rfl⟩
  ·have HE := Lib.hid he; clear he
   go_enter Tryz.func76, Tryz.ntmps76
   go_wp2_with (first | (go_at_call 105; refine (Tryz.utf8_ValidRune _ _).mono ?_; rintro e w1 ⟨rfl, rfl⟩; rw [HV.out]) | fail)
   go_step3
   go_upto_region 5 with (first | (simp only [HE.out]) | fail)
   go_loopw [9] (fun v9 wx => v9 = .int .i64 2 ∧ w1 = wx) (fun _ _ => 0)
   case atStart => exact ⟨rfl, rfl⟩
   case round =>
    obtain ⟨rfl, rfl⟩ := hrel
    go_wp2_with fail
    go_step3
    go_upto_region 6 with fail
    go_region
    obtain ⟨o, ho⟩ : ∃ o, Lib.indexByte ((⟨#[46, 101, 73, 78]⟩ : ByteArray).extract 3 4).data.toList ((c.toNat : Int)).toNat.toUInt8 = o := ⟨_, rfl⟩
    have hneg : o < 0 := by rw [← ho]; exact ib_c 3 4 c hc
    have HO := Lib.hid ho
    clear ho
    go_upto_region 7 with fail
    go_quiet ((go_at_call 107; refine (Tryz.strings_IndexByte _ _ _).mono ?_; rintro e w2 ⟨rfl, rfl⟩; (first | rw [HO.out] | rw [show ∀ x, Lib.indexByte (ByteArray.empty).data.toList x = -1 from fun _ => rfl]); exact ⟨rfl, _, rfl⟩))
    go_wp2_with fail
    simp +zetaDelta only [inBlock_ret, Exit.noGoto_ret, then_ret]
    go_returns
    exact ⟨⟨_, rfl⟩, rfl, rfl, rfl, Nat.le_refl _, fun _ _ => rfl⟩
  ·have HE := Lib.hid he; clear he
   go_enter Tryz.func76, Tryz.ntmps76
   go_wp2_with (first | (go_at_call 105; refine (Tryz.utf8_ValidRune _ _).mono ?_; rintro e w1 ⟨rfl, rfl⟩; rw [HV.out]) | fail)
   go_step3
   go_upto_region 5 with (first | (simp only [HE.out]) | fail)
   go_loopw [9] (fun v9 wx => v9 = .int .i64 3 ∧ w1 = wx) (fun _ _ => 0)
   case atStart => exact ⟨rfl, rfl⟩
   case round =>
    obtain ⟨rfl, rfl⟩ := hrel
    go_wp2_with fail
    go_step3
    go_upto_region 6 with fail
    go_region
    obtain ⟨o, ho⟩ : ∃ o, Lib.indexByte ((⟨#[46, 101, 73, 78]⟩ : ByteArray).extract 4 4).data.toList ((c.toNat : Int)).toNat.toUInt8 = o := ⟨_, rfl⟩
    have hneg : o < 0 := by rw [← ho]; exact ib_c 4 4 c hc
    have HO := Lib.hid ho
    clear ho
    go_upto_region 7 with fail
    go_quiet ((go_at_call 107; refine (Tryz.strings_IndexByte _ _ _).mono ?_; rintro e w2 ⟨rfl, rfl⟩; (first | rw [HO.out] | rw [show ∀ x, Lib.indexByte (ByteArray.empty).data.toList x = -1 from fun _ => rfl]); exact ⟨rfl, _, rfl⟩))
    go_wp2_with fail
    simp +zetaDelta only [inBlock_ret, Exit.noGoto_ret, then_ret]
    go_returns
    exact ⟨⟨_, rfl⟩, rfl, rfl, rfl, Nat.le_refl _, fun _ _ => rfl⟩
end Go.Proofs.YtnccpddjdgndcaaGreatDoor.Ira
end

section
/- THE WALK OF strings.ContainsAny(s, ".eIN") AT ANY BYTES: it answers. -/
namespace Go.Proofs.YtnccpddjdgndcaaGreatDoor.Ira
open Go.RowKit Go.Lib
theorem ascii_c : ∀ (j : Nat) b, (⟨#[46, 101, 73, 78]⟩ : ByteArray).data.toList[j]? = some b → b.toNat < 128 := fun j b h => by
 have hm : b ∈ [46, 101, 73, 78] := List.mem_of_getElem? h
 simp only [List.mem_cons, List.not_mem_nil, or_false] at hm
 rcases hm with rfl | rfl | rfl | rfl <;> decide
theorem below_iterAt {w wx : World} {k : Nat} {s : ByteArray} {p : Nat} (h : Below w.heap.size w wx) (hk : w.heap.size ≤ k) : Below w.heap.size w (wx.iterAt k s p) :=
 ⟨h.os, h.tape, h.output, by show _ ≤ (wx.heap.setIfInBounds k _).size; rw [Array.size_setIfInBounds]; exact h.size, fun q hq => by
  show (wx.heap.setIfInBounds k _)[q]? = _
  rw [Array.getElem?_setIfInBounds_ne (by omega)]
  exact h.block q hq⟩
theorem dec_pos (s : ByteArray) (i : Nat) (h : i < s.size) : 1 ≤ (Utf8.decode s i).2 := by
 by_cases ha : (s[i]'h).toNat < 128
 ·rw [decode_ascii s i h ha]; exact Nat.le_refl _
 ·exact (decode_high s i h (by omega)).2
set_option maxRecDepth 20000 in
set_option maxHeartbeats 2000000 in
theorem iany_any (s : ByteArray) (hs : s.size ≤ 100000) (w : World) : Calls Tryz.prog 47 #[.string s, .string (⟨#[46, 101, 73, 78]⟩ : ByteArray)] w fun e w' => AnsI e ∧ Below w.heap.size w w' := by
 by_cases h8 : 8 < s.size
 ·refine (Tryz.strings_IndexAny_long (zero_of_info (n := 256) (by kernel_rfl)).1 s (⟨#[46, 101, 73, 78]⟩ : ByteArray) w (by decide) h8 (by omega) (by decide) ascii_c).mono ?_
  rintro e w' ⟨rfl, rfl⟩
  exact ⟨⟨_, rfl⟩, ((Below.refl _ _).alloc (Nat.le_refl _) _).alloc (by simp) _⟩
 have h8z : decide ((8 : Int) < (s.size : Int)) = false := decide_eq_false (by omega)
 go_enter Tryz.func47, Tryz.ntmps47
 go_wp2_with (first | (go_at_call 77; refine (Tryz.strings_shouldUseASCIISet _ _).mono ?_; rintro e w' ⟨rfl, hw⟩; rw [hw, h8z]) | fail)
 go_loopg [9, 10] s.size (fun g _ _ wx => ∃ i : Nat, s.size ≤ i + g ∧ wx.heap[w.heap.size]? = some (.stringIter s i) ∧ Below w.heap.size w wx)
 case atStart => exact ⟨0, by omega, heap_alloc_new w _, (Below.refl _ w).alloc (Nat.le_refl _) _⟩
 case round =>
  obtain ⟨i, hig, hk, hb⟩ := hrel
  by_cases hi : i < s.size
  ·cases gk with
   | zero => omega
   | succ g =>
    have hnx := fun ty => run_next_any_at (P := Tryz.prog) wr w.heap.size s i ty hk hi
    have hd := dec_pos s i hi
    have hr := decode_le s i
    have hk2 := fun p => iterAt_heap wr w.heap.size s i p hk
    have hbi := fun p => below_iterAt (s := s) (p := p) hb (Nat.le_refl _)
    generalize Utf8.decode s i = q at *
    go_wp2_with (first | (go_at_call 76; refine (irune_any q.1 hr _).mono ?_; rintro e w2 ⟨⟨o, rfl⟩, hb2⟩) | fail)
    ·go_returns
     exact ⟨⟨_, rfl⟩, (hbi _).trans (hb2.mono (hbi _).size)⟩
    ·go_roundg g
     case measure => omega
     case rel => exact ⟨i + q.2, by omega, (hb2.block _ (Array.getElem?_eq_some_iff.1 (hk2 _)).1).trans (hk2 _), (hbi _).trans (hb2.mono (hbi _).size)⟩
  ·have hnx := fun ty => run_next_end_at (P := Tryz.prog) wr w.heap.size s i ty hk hi
   go_wp2_with fail
   go_returns
   exact ⟨⟨_, rfl⟩, hb⟩
def AnsB (e : Ending) : Prop := ∃ b : Bool, e = .returned (.bool b)
theorem cany_any (s : ByteArray) (hs : s.size ≤ 100000) (w : World) : Calls Tryz.prog 30 #[.string s, .string (⟨#[46, 101, 73, 78]⟩ : ByteArray)] w fun e w' => AnsB e ∧ Below w.heap.size w w' := by
 go_enter Tryz.func30, Tryz.ntmps30
 go_wp2_with (first | (go_at_call 47; refine (iany_any s hs _).mono ?_; rintro e w2 ⟨⟨o, rfl⟩, hb2⟩) | fail)
 go_returns
 exact ⟨⟨_, rfl⟩, hb2⟩
end Go.Proofs.YtnccpddjdgndcaaGreatDoor.Ira
end

section
/- utf8.ValidString's contract, laid by the kit's tool at this seat's dump, its remarks struck. -/
namespace Go.Proofs
open Go.Shelf
def Tryz.lays196_ren : Go.Shelf.Ren := ⟨fun | 196 => 72 | 259 => 102 | n => n, fun | 9 => 9 | 4 => 4 | 3 => 3 | 5 => 5 | 12 => 12 | 119 => 127 | 0 => 0 | 46 => 113 | 139 => 130 | 138 => 129 | 53 => 80 | n => n, fun | 3 => 3 | 4 => 4 | n => n⟩
theorem Tryz.lays196 : Go.Proofs.Lays.n196 Tryz.prog Tryz.lays196_ren := {
 mixed := by kernel_rfl
 f196 := Tryz.func72.trans (congrArg some (by kernel_rfl))
 f259 := Tryz.func102.trans (congrArg some (by kernel_rfl))
 t0 := Tryz.underlying0
 a0 := Tryz.isAgg0
 z0 := Tryz.sizeOf0
 v0 := Tryz.zeroValue0
 t3 := Tryz.underlying3
 a3 := Tryz.isAgg3
 z3 := Tryz.sizeOf3
 v3 := Tryz.zeroValue3
 t4 := Tryz.underlying4
 a4 := Tryz.isAgg4
 z4 := Tryz.sizeOf4
 v4 := Tryz.zeroValue4
 t5 := Tryz.underlying5
 a5 := Tryz.isAgg5
 z5 := Tryz.sizeOf5
 v5 := Tryz.zeroValue5
 t9 := Tryz.underlying9
 a9 := Tryz.isAgg9
 z9 := Tryz.sizeOf9
 v9 := Tryz.zeroValue9
 t12 := Tryz.underlying12
 a12 := Tryz.isAgg12
 z12 := Tryz.sizeOf12
 v12 := Tryz.zeroValue12
 t46 := Tryz.underlying113
 a46 := Tryz.isAgg113
 z46 := Tryz.sizeOf113
 v46 := Tryz.zeroValue113
 t53 := Tryz.underlying80
 a53 := Tryz.isAgg80
 z53 := Tryz.sizeOf80
 v53 := Tryz.zeroValue80
 t119 := Tryz.underlying127
 a119 := Tryz.isAgg127
 z119 := Tryz.sizeOf127
 t138 := Tryz.underlying129
 a138 := Tryz.isAgg129
 z138 := Tryz.sizeOf129
 v138 := Tryz.zeroValue129
 t139 := Tryz.underlying130
 a139 := Tryz.isAgg130
 z139 := Tryz.sizeOf130
 v139 := Tryz.zeroValue130
 g3 := by kernel_rfl
 g4 := by kernel_rfl }
end Go.Proofs
end

section
/- PLAIN LAW OF Implies: what it answers, that it is sound, that it is handed on. No program in sight. -/
namespace Go.Proofs.YtnccpddjdgndcaaGreatDoor.Val
open Flt
theorem cb_zero : ∀ (a b : List UInt8), Lib.compareBytes a b = 0 ↔ a = b
 | [], [] => by simp [Lib.compareBytes]
 | [], _ :: _ => by simp [Lib.compareBytes]
 | _ :: _, [] => by simp [Lib.compareBytes]
 | a :: ar, b :: bs => by
  unfold Lib.compareBytes
  by_cases h : a < b
  ·rw [if_pos h]; constructor
   ·intro h'; omega
   ·intro h'; injection h' with h1 h2; subst h1; exact absurd h (UInt8.lt_irrefl _)
  ·rw [if_neg h]
   by_cases h' : b < a
   ·rw [if_pos h']; constructor
    ·intro h'; omega
    ·intro h2; injection h2 with h1 h3; subst h1; exact absurd h' (UInt8.lt_irrefl _)
   ·rw [if_neg h', cb_zero ar bs]
    have e : a = b := by
     rw [UInt8.lt_iff_toNat_lt] at h h'
     exact UInt8.toNat_inj.1 (by omega)
    subst e; simp
theorem cb_lt : ∀ (a b c : List UInt8), (Lib.compareBytes a b < 0 → Lib.compareBytes b c < 0 → Lib.compareBytes a c < 0) ∧ (0 < Lib.compareBytes a b → 0 < Lib.compareBytes b c → 0 < Lib.compareBytes a c)
 | [], [], _ => by simp [Lib.compareBytes]
 | [], _ :: _, [] => by simp [Lib.compareBytes]
 | [], _ :: _, _ :: _ => by simp [Lib.compareBytes]
 | _ :: _, [], [] => by simp [Lib.compareBytes]
 | _ :: _, [], _ :: _ => by simp [Lib.compareBytes]
 | _ :: _, _ :: _, [] => by simp [Lib.compareBytes]
 | a :: ar, b :: bs, c :: cs => by
  have ih := cb_lt ar bs cs
  unfold Lib.compareBytes
  simp only [UInt8.lt_iff_toNat_lt]
  by_cases h1 : a.toNat < b.toNat <;> by_cases h2 : b.toNat < a.toNat <;> by_cases h3 : b.toNat < c.toNat <;> by_cases h4 : c.toNat < b.toNat <;> by_cases h5 : a.toNat < c.toNat <;> by_cases h6 : c.toNat < a.toNat <;> simp only [h1, h2, h3, h4, h5, h6, if_true, if_false] <;> first | exact ih | omega
def Ord3 (p q r : Int) : Prop := (p < 0 → q ≤ 0 → r < 0) ∧ (p ≤ 0 → q < 0 → r < 0) ∧ (p = 0 → q = 0 → r = 0) ∧ (0 < p → 0 ≤ q → 0 < r) ∧ (0 ≤ p → 0 < q → 0 < r)
theorem cb_ord (a b c : List UInt8) : Ord3 (Lib.compareBytes a b) (Lib.compareBytes b c) (Lib.compareBytes a c) := by
 have h := cb_lt a b c
 have h1 := cb_zero a b
 have h2 := cb_zero b c
 unfold Ord3
 by_cases e1 : a = b
 ·subst e1; rw [(cb_zero a a).2 rfl] at *; omega
 by_cases e2 : b = c
 ·subst e2; rw [(cb_zero b b).2 rfl] at *; omega
 simp only [e1, iff_false] at h1
 simp only [e2, iff_false] at h2
 omega
end Go.Proofs.YtnccpddjdgndcaaGreatDoor.Val
end

section
/- THE WALKS OF package order: Key, Same. -/
namespace Go.Proofs.YtnccpddjdgndcaaGreatDoor.Ord
open Go.RowKit Flt
attribute [local go_sem] ford_eq ford_lt ford_gt
theorem bits_call (b : Nat) (w : World) : (callFunc 86 #[.float .f64 b]).run Tryz.prog w = .ok (.value (.int .u64 b)) w :=
 run_callFunc_extern (e := Extern.MathFloatBits.float64bits) Tryz.func86 (by kernel_rfl) (by kernel_rfl) (by kernel_rfl) (by kernel_rfl) _ w
theorem umax_xor (b : Nat) (hb : b < 18446744073709551616) : bits .xor .u64 IntKind.u64.max (b : Int) = ((most - b : Nat) : Int) := by
 have h := u64_xor 18446744073709551615 (b : Int) (by decide) (by decide) (by omega) (by omega)
 have e : IntKind.u64.max = 18446744073709551615 := by decide
 rw [e, h]
 have e2 : (18446744073709551615 : Int).toNat = most := by decide
 rw [e2, Int.toNat_natCast, xor_most hb]
theorem top_or (b : Nat) (hb : b < 18446744073709551616) : bits .or .u64 (b : Int) 9223372036854775808 = ((b ||| top : Nat) : Int) := by
 have h := u64_or (b : Int) 9223372036854775808 (by omega) (by omega) (by decide) (by decide)
 rw [h, Int.toNat_natCast]; rfl
theorem ret_u64 {a b : Int} (h : a = b) : Ending.returned (.int .u64 a) = .returned (.int .u64 b) := by rw [h]
set_option maxHeartbeats 400000 in
theorem key_any (b : Nat) (hb : b < 18446744073709551616) (w : World) :
  Calls Tryz.prog 52 #[.float .f64 b] w fun e w' => e = .returned (.int .u64 (key b)) ∧ w = w' := by
 have hc := bits_call
 have h1 := ford_ne_self (canon b)
 rw [canon_nan] at h1
 cases hn : nan b with
 | true =>
  rw [key_nan hn]
  rw [hn] at h1; clear hn hb
  go_enter Tryz.func52, Tryz.ntmps52
  go_wp2_with (go_at_call 32; refine (canon_any _ _).mono ?_; rintro e w' ⟨rfl, rfl⟩)
  go_ret
  exact ⟨rfl, rfl⟩
 | false =>
  rw [hn] at h1
  have hk := key_of_canon b hb hn
  have hl := canon_lt b hb
  clear hn hb
  by_cases h : canon b / 9223372036854775808 = 1
  ·rw [if_pos h] at hk
   have HK := Lib.hid hk; clear hk
   have h' : ((canon b : Int) / 9223372036854775808 == 1) = true := by rw [beq_iff_eq]; omega
   clear h
   go_enter Tryz.func52, Tryz.ntmps52
   go_wp2_with (go_at_call 32; refine (canon_any _ _).mono ?_; rintro e w' ⟨rfl, rfl⟩)
   go_ret
   exact ⟨ret_u64 (by rw [HK.out, umax_xor _ hl]), rfl⟩
  ·rw [if_neg h] at hk
   have HK := Lib.hid hk; clear hk
   have h' : ((canon b : Int) / 9223372036854775808 == 1) = false := by rw [beq_eq_false_iff_ne]; omega
   clear h
   go_enter Tryz.func52, Tryz.ntmps52
   go_wp2_with (go_at_call 32; refine (canon_any _ _).mono ?_; rintro e w' ⟨rfl, rfl⟩)
   go_ret
   exact ⟨ret_u64 (by rw [HK.out, top_or _ hl]), rfl⟩
def same (a b : Nat) : Bool := key a == key b
theorem beq_cast (a b : Nat) : ((a : Int) == (b : Int)) = (a == b) := by
 rw [Bool.eq_iff_iff]; simp; omega
set_option maxHeartbeats 400000 in
theorem same_any (a b : Nat) (ha : a < 18446744073709551616) (hb : b < 18446744073709551616) (w : World) :
  Calls Tryz.prog 34 #[.float .f64 a, .float .f64 b] w fun e w' => e = .returned (.bool (same a b)) ∧ w = w' := by
 go_enter Tryz.func34, Tryz.ntmps34
 go_wp2_with (go_at_call 52; refine (key_any _ (by assumption) _).mono ?_; rintro e w' ⟨rfl, rfl⟩)
 go_ret
 exact ⟨ret_bool (beq_cast _ _), rfl⟩
end Go.Proofs.YtnccpddjdgndcaaGreatDoor.Ord
end

section
/- THE WALKS OF value.Same, cond.below, cond.above. -/
namespace Go.Proofs.YtnccpddjdgndcaaGreatDoor.Val
open Go.RowKit Flt
def sameB (a b : V) : Bool := a.kind == b.kind && (if a.kind == 0 then a.int == b.int else if a.kind == 1 then Ord.same a.num b.num else if a.kind == 2 then a.text == b.text else a.yes == b.yes)
set_option maxHeartbeats 400000 in
theorem same_any (k1 n1 : Int) (x1 : Nat) (t1 : List UInt8) (y1 : Bool) (k2 n2 : Int) (x2 : Nat) (t2 : List UInt8) (y2 : Bool) (w : World) (h1 : x1 < 18446744073709551616) (h2 : x2 < 18446744073709551616) :
  Calls Tryz.prog 11 #[val k1 n1 x1 t1 y1, val k2 n2 x2 t2 y2] w fun e w' => e = .returned (.bool (sameB ⟨k1, n1, x1, t1, y1⟩ ⟨k2, n2, x2, t2, y2⟩)) ∧ Below w.heap.size w w' := by
 have hr : sameB ⟨k1, n1, x1, t1, y1⟩ ⟨k2, n2, x2, t2, y2⟩ = (k1 == k2 && (if k1 == 0 then n1 == n2 else if k1 == 1 then Ord.same x1 x2 else if k1 == 2 then t1 == t2 else y1 == y2)) := rfl
 have ho (w : World) := Ord.same_any x1 x2 h1 h2 w
 generalize Ord.same x1 x2 = sb at *
 have HR := Lib.hid hr; have HO := Lib.hid ho; clear hr ho h1 h2
 cases hk : (k1 == k2)
 ·have hk' : (k1 != k2) = true := by rw [bne, hk]; rfl
  go_enter Tryz.func11, Tryz.ntmps11
  go_wp2
  go_ret
  exact ⟨ret_bool (by rw [HR.out, hk]; rfl), balloc2 _ _ _⟩
 have hk' : (k1 != k2) = false := by rw [bne, hk]; rfl
 cases q0 : (k1 == 0)
 ·cases q1 : (k1 == 1)
  ·cases q2 : (k1 == 2)
   all_goals
    go_enter Tryz.func11, Tryz.ntmps11
    go_wp2
    go_ret
    exact ⟨ret_bool (by rw [HR.out, hk, q0, q1, q2]; rfl), balloc2 _ _ _⟩
  ·go_enter Tryz.func11, Tryz.ntmps11
   go_wp2_with (go_at_call 34; refine (HO.out _).mono ?_; rintro e w' ⟨rfl, rfl⟩)
   go_ret
   exact ⟨ret_bool (by rw [HR.out, hk, q0, q1]; rfl), balloc2 _ _ _⟩
 ·go_enter Tryz.func11, Tryz.ntmps11
  go_wp2
  go_ret
  exact ⟨ret_bool (by rw [HR.out, hk, q0]; rfl), balloc2 _ _ _⟩
end Go.Proofs.YtnccpddjdgndcaaGreatDoor.Val
end

section
/- PLAIN: a filter's text in pieces; blanks around. No program in sight. -/
namespace Go.Proofs.YtnccpddjdgndcaaGreatDoor.Pa
def cutGo : Bool → List UInt8 → List UInt8 → List (List UInt8)
 | _, cur, [] => [cur]
 | q, cur, [c] => if (q && c == 92) = true then [cur ++ [c]] else if (c == 34) = true then [cur ++ [c]] else if (c == 38 && !q) = true then [cur, []] else [cur ++ [c]]
 | q, cur, c :: d :: r => if (q && c == 92) = true then cutGo q (cur ++ [c, d]) r else if (c == 34) = true then cutGo (!q) (cur ++ [c]) (d :: r) else if (c == 38 && !q) = true then cur :: cutGo false [] (d :: r) else cutGo q (cur ++ [c]) (d :: r)
def cutP (s : List UInt8) : List (List UInt8) := cutGo false [] s
theorem cutGo_skip (q : Bool) (cur : List UInt8) (c : UInt8) (r : List UInt8) (h : (q && c == 92) = true) : cutGo q cur (c :: r) = cutGo q (cur ++ c :: r.take 1) (r.drop 1) := by
 cases r with
 | nil => simp [cutGo, h]
 | cons d r => simp only [cutGo, h, if_true]; simp
theorem cutGo_quote (q : Bool) (cur : List UInt8) (c : UInt8) (r : List UInt8) (h : (q && c == 92) = false) (h2 : (c == 34) = true) : cutGo q cur (c :: r) = cutGo (!q) (cur ++ [c]) r := by
 cases r with
 | nil => simp [cutGo, h, h2]
 | cons d r => simp only [cutGo, h, h2, if_true]; simp
theorem cutGo_and (q : Bool) (cur : List UInt8) (c : UInt8) (r : List UInt8) (h : (q && c == 92) = false) (h2 : (c == 34) = false) (h3 : (c == 38 && !q) = true) : cutGo q cur (c :: r) = cur :: cutGo false [] r := by
 cases r with
 | nil => simp only [cutGo, h, h2, h3]; simp
 | cons d r => simp only [cutGo, h, h2, h3, if_true]; simp
theorem cutGo_else (q : Bool) (cur : List UInt8) (c : UInt8) (r : List UInt8) (h : (q && c == 92) = false) (h2 : (c == 34) = false) (h3 : (c == 38 && !q) = false) : cutGo q cur (c :: r) = cutGo q (cur ++ [c]) r := by
 cases r with
 | nil => simp only [cutGo, h, h2, h3]; simp
 | cons d r => simp only [cutGo, h, h2, h3]; simp
theorem cur_more {s r : List UInt8} {fr i : Nat} {c : UInt8} (h : s.drop i = c :: r) (hfr : fr ≤ i) : (s.drop fr).take (i - fr) ++ [c] = (s.drop fr).take (i + 1 - fr) ∧ r = s.drop (i + 1) := by
 constructor
 ·rw [show i + 1 - fr = (i - fr) + 1 from by omega, List.take_add, List.drop_drop, show fr + (i - fr) = i from by omega, h]; rfl
 ·rw [← List.drop_drop, h]; rfl
theorem cur_skip {s r : List UInt8} {fr i : Nat} {c : UInt8} (h : s.drop i = c :: r) (hfr : fr ≤ i) : (s.drop fr).take (i - fr) ++ c :: r.take 1 = (s.drop fr).take (i + 2 - fr) ∧ r.drop 1 = s.drop (i + 2) := by
 constructor
 ·rw [show i + 2 - fr = (i - fr) + 2 from by omega, List.take_add, List.drop_drop, show fr + (i - fr) = i from by omega, h]; rfl
 ·rw [show i + 2 = i + 1 + 1 from rfl, ← List.drop_drop, ← List.drop_drop, h]; rfl
abbrev trimP (s : List UInt8) : List UInt8 := Lib.trimB s 32
theorem dropWhile_app (p : UInt8 → Bool) : ∀ (l m : List UInt8), (∀ x ∈ l, p x = true) → (l ++ m).dropWhile p = m.dropWhile p
 | [], _, _ => rfl
 | x :: l, m, h => by
  rw [List.cons_append, List.dropWhile_cons, if_pos (h x (by simp))]
  exact dropWhile_app p l m (fun y hy => h y (by simp [hy]))
theorem dropWhile_stop (p : UInt8 → Bool) (m : List UInt8) (h : ∀ x, m.head? = some x → p x = false) : m.dropWhile p = m := by
 cases m with
 | nil => rfl
 | cons x m => rw [List.dropWhile_cons, if_neg (by rw [h x rfl]; simp)]
theorem trimP_of {a m b : List UInt8} (ha : ∀ x ∈ a, x = 32) (hb : ∀ x ∈ b, x = 32) (h1 : ∀ x, m.head? = some x → x ≠ 32) (h2 : ∀ x, m.getLast? = some x → x ≠ 32) : trimP (a ++ (m ++ b)) = m := by
 show Lib.trimLeftB (Lib.trimRightB (a ++ (m ++ b)) 32) 32 = m
 cases m with
 | nil =>
  have : Lib.trimRightB (a ++ ([] ++ b)) 32 = [] := by
   unfold Lib.trimRightB
   have e := dropWhile_app (· == 32) (a ++ ([] ++ b)).reverse [] (fun x hx => by
    have : x ∈ a ∨ x ∈ b := by simpa [or_comm] using hx
    rcases this with h | h
    ·simp [ha x h]
    ·simp [hb x h])
   rw [List.append_nil] at e
   rw [e]; rfl
  rw [this]; rfl
 | cons y m =>
  have e : Lib.trimRightB (a ++ (y :: m ++ b)) 32 = a ++ y :: m := by
   unfold Lib.trimRightB
   rw [show (a ++ (y :: m ++ b)).reverse = b.reverse ++ (a ++ y :: m).reverse from by simp]
   rw [dropWhile_app _ _ _ (fun x hx => by simp [hb x (by simpa using hx)])]
   rw [dropWhile_stop _ _ (fun x hx => ?_), List.reverse_reverse]
   have : (y :: m).getLast? = some x := by
    rw [List.head?_reverse, List.getLast?_append] at hx
    simpa using hx
   simpa using h2 x this
  rw [e]
  unfold Lib.trimLeftB
  rw [dropWhile_app _ _ _ (fun x hx => by simp [ha x hx])]
  exact dropWhile_stop _ _ (fun x hx => by simpa using h1 x hx)
theorem dropWhile_head (p : UInt8 → Bool) : ∀ (l : List UInt8) (x : UInt8), (l.dropWhile p).head? = some x → p x = false
 | [], x, h => by simp at h
 | y :: l, x, h => by
  rw [List.dropWhile_cons] at h
  split at h
  ·exact dropWhile_head p l x h
  ·rename_i hy
   simp only [List.head?_cons, Option.some.injEq] at h
   subst h
   simpa using hy
end Go.Proofs.YtnccpddjdgndcaaGreatDoor.Pa
end

section
/- PLAIN FUNCTIONS ON TEXTS: names, what stands between the /, scopes, what is below a scope. No program in sight. -/
namespace Go.Proofs.YtnccpddjdgndcaaGreatDoor.Sc

def parts : List UInt8 → List (List UInt8)
 | [] => [[]]
 | b :: r => if b = 47 then [] :: parts r else
  match parts r with
  | [] => [[b]]
  | p :: q => (b :: p) :: q
theorem parts_ne (l : List UInt8) : parts l ≠ [] := by
 cases l with
 | nil => simp [parts]
 | cons b r =>
  unfold parts; split
  ·simp
  ·split <;> simp
theorem parts_cons {c : UInt8} {r p : List UInt8} {q : List (List UInt8)} (hc : ¬ c = 47) (h : parts r = p :: q) : parts (c :: r) = (c :: p) :: q := by
 rw [parts, if_neg hc, h]
theorem parts_slash (a b : List UInt8) (h : 47 ∉ a) : parts (a ++ 47 :: b) = a :: parts b := by
 induction a with
 | nil => simp [parts]
 | cons c a ih =>
  have hc : ¬ c = 47 := fun e => h (by simp [e])
  have ih := ih (fun m => h (by simp [m]))
  rw [List.cons_append]; exact parts_cons hc ih
theorem parts_none (a : List UInt8) (h : 47 ∉ a) : parts a = [a] := by
 induction a with
 | nil => simp [parts]
 | cons c a ih =>
  have hc : ¬ c = 47 := fun e => h (by simp [e])
  have ih := ih (fun m => h (by simp [m]))
  exact parts_cons hc ih
theorem parts_length (l : List UInt8) : (parts l).length ≤ l.length + 1 := by
 induction l with
 | nil => simp [parts]
 | cons b r ih =>
  unfold parts; split
  ·simp; omega
  ·split <;> simp_all; omega

theorem slash_cases (l : List UInt8) : (Lib.indexByte l 47 = -1 ∧ 47 ∉ l) ∨
  (∃ a b, l = a ++ 47 :: b ∧ 47 ∉ a ∧ Lib.indexByte l 47 = a.length) := by
 induction l with
 | nil => left; simp [Lib.indexByte]
 | cons c r ih =>
  by_cases hc : c = 47
  ·right; exact ⟨[], r, by simp [hc], by simp, by simp [Lib.indexByte, hc]⟩
  ·have h1 : (c == (47 : UInt8)) = false := by simp [hc]
   rcases ih with ⟨e, hn⟩ | ⟨a, b, e, hn, hi⟩
   ·left; refine ⟨?_, by simp [hn]; exact fun h => hc h.symm⟩
    unfold Lib.indexByte; rw [h1, e]; rfl
   ·right
    refine ⟨c :: a, b, by simp [e], by simp [hn]; exact fun h => hc h.symm, ?_⟩
    have h2 : ((a.length : Int) == -1) = false := by rw [beq_eq_false_iff_ne]; omega
    unfold Lib.indexByte; rw [h1, hi, h2]; simp

def rightB (l : List UInt8) : Bool := l.isEmpty || ((parts l).all nameB && decide ((parts l).length ≤ 4))
end Go.Proofs.YtnccpddjdgndcaaGreatDoor.Sc
end
