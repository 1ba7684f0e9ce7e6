/- MERGED BY A PROGRAM OF MINE (pmg.py) out of my own texts, pruned, in their order: DcR, DcL, DcH, DcS, DcT, DcP, Scope, DcB, Ahx, DcF, DcG, PfA, SpB, Atf, RfE, ShelfE, Pflt, Pint. -/
import Derived.Test.YtnccpddjdgndcaaGreatDoorMgValueReads1
import Derived.Scope
import Derived.WalkMore
import Derived.Handy
import Derived.BigQuiet
import Derived.Deep.DeepCutAuto
import Derived.Deep.CutBlock
import Derived.Deep.CutRange
import Derived.Deep.LoopGhost
import Derived.Deep.QuietTactic
import Derived.LaidEqlPtr
import Derived.Test.YtnccpddjdgndcaaGreatDoorRfB
import Derived.Test.YtnccpddjdgndcaaGreatDoorRfD
import Derived.Test.YtnccpddjdgndcaaGreatDoorSpA
import Derived.Test.YtnccpddjdgndcaaGreatDoorRfH
import Derived.Test.YtnccpddjdgndcaaGreatDoorShelf
import Derived.Shelf.Strings.Trim
import Derived.Shelf.Small.Utf8
import Derived.Shelf.Small.Strs
import Derived.Shelf.Utf8.AppendRune
import Derived.Shelf.Utf8.AppendRunePlain
import Derived.Shelf.Strconv.Bsearch
import Derived.Shelf.Strconv.IsPrint
import Derived.Shelf.Strconv.IsPrint16
import Derived.Shelf.Strconv.IsPrint32
import Derived.Shelf.Strconv.Escaped
import Derived.Shelf.Strconv.Quoted
import Derived.Shelf.Strconv.Quote
import Derived.Shelf.Strconv.Itoa0
import Derived.Shelf.Strconv.Itoa1
import Derived.Shelf.LaysM
import Derived.Shelf.Strconv.Itoa2
import Derived.Shelf.Strconv.Itoa3
import Derived.Shelf.Strconv.Itoa4
import Derived.Shelf.Strconv.ParseIntEmpty
import Derived.Shelf.Strconv.Clone
import Derived.Shelf.Strconv.SyntaxError
import Derived.Shelf.LaysC
import Derived.Shelf.Strconv.ToError
import Derived.Shelf.Strconv.Lower
import Derived.Shelf.Strconv.ParseUint10
import Derived.Shelf.Strconv.ParseUint10Empty
import Derived.Shelf.Strconv.ParseUint10Any
import Derived.Shelf.Strconv.ParseInt10
import Derived.Shelf.Strconv.RangeError
import Derived.Shelf.Strconv.ToErrorRange
import Derived.Shelf.Strconv.ParseUintEmpty
import Derived.Shelf.Strconv.ParseUint10b64
import Derived.Shelf.Strconv.ParseUint10b32
import Derived.Shelf.Strconv.ParseUint10b16
import Derived.Shelf.Strconv.ParseUint10b8
import Derived.Shelf.Strconv.ParseUint10At
import Derived.Shelf.Strconv.ParseInt10At64
import Derived.Shelf.Strconv.ParseInt10At32
import Derived.Shelf.Strconv.ParseInt10At16
import Derived.Shelf.Strconv.ParseInt10At8
import Derived.Shelf.Strconv.ParseInt10All
import Derived.Shelf.Strconv.ParseIntPublic10
import Derived.Shelf.Strconv.ErrVarParseInt
import Derived.Shelf.Strings.Search1
import Derived.Shelf.Strings.Search2
import Derived.Shelf.Strings.Search3
import Derived.Shelf.Strings.Cut
import Derived.Shelf.Strings.Shaped
import Derived.Shelf.Strconv.AppendUint10
import Derived.Shelf.Strconv.AppendInt10
import Derived.Shelf.Strings.Prefix
import Derived.Shelf.Unicode.Decode
import Derived.Shelf.Strings.Runes
import Derived.Shelf.Strings.IndexAny
import Derived.Shelf.Strings.AsciiSet
import Derived.Shelf.Strings.IndexAnyAll
import Derived.Shelf.Bits.Mul64
import Derived.Shelf.Unicode.DecodeSlow
import Derived.Shelf.Unicode.DecodeAny
import Derived.Shelf.Unicode.DecodeLast
import Derived.Test.YtnccpddjdgndcaaGreatDoorProg
import Derived.Lib.ParseIntBTie

section
/- THE WALK OF strconv's rightShift. -/
namespace Go.Proofs.YtnccpddjdgndcaaGreatDoor.Dc
open Go.RowKit
theorem shr_cast (n k : Nat) : (n : Int) / 2 ^ k = ((n / 2 ^ k : Nat) : Int) := by push_cast; rfl
theorem pick_go {k n r : Nat} {d : Nat} {ds : List Nat} (h : n / 2 ^ k = 0) : pick k n r (d :: ds) = pick k (n * 10 + d) (r + 1) ds := by rw [pick, if_pos h]
theorem pick_stop {k n r : Nat} (ds : List Nat) (h : ¬ n / 2 ^ k = 0) : (pick k n r ds).1 = n ∧ (pick k n r ds).2.1 = r ∧ (pick k n r ds).2.2 = ds := by
  cases ds with
  | nil =>
    have : mul10 k k n r = (n, r) := by
      cases k with
      | zero => rfl
      | succ k => rw [mul10, if_neg h]
    unfold pick
    rw [this]
    exact ⟨rfl, rfl, rfl⟩
  | cons d ds => rw [pick, if_neg h]; exact ⟨rfl, rfl, rfl⟩
theorem mul10_stop {k n : Nat} (f r : Nat) (h : ¬ n / 2 ^ k = 0) : mul10 k f n r = (n, r) := by
  cases f with
  | zero => rfl
  | succ f => rw [mul10, if_neg h]
theorem div_zero_lt {n k : Nat} (h : n / 2 ^ k = 0) : n < 2 ^ k := by
  rcases Nat.lt_or_ge n (2 ^ k) with g | g
  · exact g
  · have := Nat.div_pos g (Nat.pow_pos (by decide)); omega
theorem and_mask (n k : Nat) (hn : n < 18446744073709551616) (hk : 2 ^ k ≤ 1152921504606846976) : bits .and .u64 (n : Int) ((2 ^ k - 1 : Nat) : Int) = ((n % 2 ^ k : Nat) : Int) := by
  have e1 : (BitVec.ofInt 64 (n : Int)).toNat = n := by
    rw [BitVec.ofInt_natCast, BitVec.toNat_ofNat]; exact Nat.mod_eq_of_lt (by omega)
  have hp : 1 ≤ 2 ^ k := Nat.pow_pos (by decide)
  have e2 : (BitVec.ofInt 64 ((2 ^ k - 1 : Nat) : Int)).toNat = 2 ^ k - 1 := by
    rw [BitVec.ofInt_natCast, BitVec.toNat_ofNat]; exact Nat.mod_eq_of_lt (by omega)
  have hr : n % 2 ^ k < 2 ^ k := Nat.mod_lt _ hp
  show IntKind.u64.wrap ((BitVec.ofInt 64 (n : Int) &&& BitVec.ofInt 64 ((2 ^ k - 1 : Nat) : Int)).toNat : Int) = _
  rw [BitVec.toNat_and, e1, e2, Nat.and_two_pow_sub_one_eq_mod]
  generalize n % 2 ^ k = z at *
  rw [IntKind.wrap_u64]; omega
theorem w64_in {x : Int} (h0 : -9223372036854775808 ≤ x) (h1 : x ≤ 9223372036854775807) : wrap64 x = x := by unfold wrap64; omega
theorem u64_in {x : Int} (h0 : 0 ≤ x) (h1 : x ≤ 18446744073709551615) : IntKind.u64.wrap x = x := by rw [IntKind.wrap_u64]; omega
theorem lies_snoc {arr : Nat → Nat} {l : List Nat} {d : Nat} (h : Lies arr l) : Lies (upd arr l.length (48 + d)) (l ++ [d]) := fun i hi => by
  unfold upd
  by_cases e : i = l.length
  · subst e
    rw [if_pos rfl]; simp
  · rw [if_neg e, List.getElem_append_left (by simp at hi; omega)]
    exact h i _
set_option maxRecDepth 20000 in
set_option maxHeartbeats 4000000 in
theorem right_walk (b k : Nat) (s : DS) (w : World) (hd : DAt w b s.ds s.dp) (hok : Ok s) (h1 : 1 ≤ k) (hk : k ≤ 60) (hdp : -100000 ≤ s.dp ∧ s.dp ≤ 100000) :
    Calls Tryz.prog 177 #[.pointer (some ⟨b, 0, none⟩), .int .u64 (k : Int)] w fun e w' => e = .returned (.tuple #[]) ∧ DAt w' b (right k s).ds (right k s).dp ∧ DK b w w' := by
  obtain ⟨arr, hD, hL, h8⟩ := hd
  have hpos : 0 < 0 + val s.ds := by have := val_ge hok.hd; have := Nat.pow_pos (n := s.ds.length - 1) (show 0 < 10 by decide); omega
  have hP : 2 ^ k ≤ 1152921504606846976 := Nat.le_trans (Nat.pow_le_pow_right (by decide) hk) (by decide)
  have hP1 : 1 ≤ 2 ^ k := Nat.pow_pos (by decide)
  have HD := Lib.hid hD; have HL := Lib.hid hL; have HOK := Lib.hid hok; have HPOS := Lib.hid hpos
  clear hD hL hok hpos
  go_enter Tryz.func177, Tryz.ntmps177
  go_upto_block 0 with fail
  go_cut [4, 6] from 12 to 48 (fun v4 v6 wx => (∃ n r : Nat, v4 = .int .i64 (r : Int) ∧ v6 = .int .u64 (n : Int) ∧ r ≤ 1000 ∧ Hid ((pick k 0 0 s.ds).1 = n ∧ (pick k 0 0 s.ds).2.1 = r ∧ (pick k 0 0 s.ds).2.2 = s.ds.drop r)) ∧ w = wx)
  case first => as_aux_lemma =>
    go_wp2_with fail
    go_loopw [4, 6] (fun v4 v6 wr => (∃ n r : Nat, v4 = .int .i64 (r : Int) ∧ v6 = .int .u64 (n : Int) ∧ r ≤ s.ds.length ∧ n < 2 ^ k * 10 ∧ Hid (pick k n r (s.ds.drop r) = pick k 0 0 s.ds ∧ 0 < n + val (s.ds.drop r))) ∧ w = wr) (fun v4 _ _ => s.ds.length - (intOf v4).toNat)
    case atStart => exact ⟨⟨0, 0, rfl, rfl, Nat.zero_le _, by omega, Lib.hid ⟨rfl, HPOS.out⟩⟩, rfl⟩
    case round =>
      obtain ⟨⟨n, r, rfl, rfl, hr, hn, hp⟩, rfl⟩ := hrel
      have y8 := HD.out.nd
      by_cases hz : n / 2 ^ k = 0
      · have q : ((n : Int) / 2 ^ k == 0) = true := by rw [shr_cast, hz]; rfl
        have hlt := div_zero_lt hz
        by_cases hrl : r < s.ds.length
        · have hdr := List.drop_eq_getElem_cons hrl
          have yr := HD.out.d r (by omega)
          rw [HL.out r hrl] at yr
          have hg := HOK.out.dg s.ds[r] (List.getElem_mem hrl)
          generalize s.ds[r]'hrl = d at *
          have i1 : ¬ (s.ds.length : Int) ≤ (r : Int) := by omega
          have i2 : (0 : Int) ≤ (r : Int) := by omega
          have i3 : (r : Int) < 800 := by omega
          have HDR := Lib.hid hdr; have HZ := Lib.hid hz
          clear hdr hz hP1
          go_wp2_with fail
          refine ⟨⟨⟨n * 10 + d, r + 1, by go_num, ?_, by omega, by omega, Lib.hid ?_⟩, trivial⟩, by simp [intOf]; go_num⟩
          · go_num
          · have h := hp.out
            rw [HDR.out, pick_go HZ.out] at h
            refine ⟨h.1, ?_⟩
            have h2 := h.2
            rw [val_cons] at h2
            rcases Nat.eq_zero_or_pos d with g | g
            · rw [g] at h2 ⊢; omega
            · omega
        · obtain rfl : r = s.ds.length := by omega
          have hnil : s.ds.drop s.ds.length = [] := List.drop_length
          have h := hp.out
          rw [hnil] at h
          have hn0 : 0 < n := by have := h.2; simp [val] at this; omega
          have q2 : ((n : Int) == 0) = false := by rw [beq_eq_false_iff_ne]; omega
          have hm : (mul10 k k n s.ds.length).1 = (pick k 0 0 s.ds).1 ∧ (mul10 k k n s.ds.length).2 = (pick k 0 0 s.ds).2.1 ∧ (pick k 0 0 s.ds).2.2 = [] := by
            rw [← h.1]; exact ⟨rfl, rfl, rfl⟩
          have hle : 2 ^ k ≤ n * 2 ^ k := Nat.le_mul_of_pos_left _ hn0
          have HM := Lib.hid hm; have HLE := Lib.hid hle
          clear h hm hle hnil hp hz
          go_wp2_with fail
          go_loopw [4, 6] (fun v4 v6 wr => (∃ n2 f j : Nat, v4 = .int .i64 ((s.ds.length + j : Nat) : Int) ∧ v6 = .int .u64 (n2 : Int) ∧ j + f = k ∧ n2 < 2 ^ k * 10 ∧ 0 < n2 ∧ Hid (mul10 k f n2 (s.ds.length + j) = mul10 k k n s.ds.length ∧ 2 ^ k ≤ n2 * 2 ^ f)) ∧ w = wr) (fun v4 _ _ => s.ds.length + k - (intOf v4).toNat)
          case atStart => exact ⟨⟨n, k, 0, rfl, rfl, by omega, hn, hn0, Lib.hid ⟨rfl, HLE.out⟩⟩, rfl⟩
          case round =>
            obtain ⟨⟨n2, f, j, rfl, rfl, hjf, hn2, hn20, hmm⟩, rfl⟩ := hrel
            by_cases hz : n2 / 2 ^ k = 0
            · have q3 : ((n2 : Int) / 2 ^ k == 0) = true := by rw [shr_cast, hz]; rfl
              have hlt2 := div_zero_lt hz
              have hf : 1 ≤ f := by
                rcases Nat.eq_zero_or_pos f with g | g
                · exfalso
                  have := hmm.out.2
                  rw [g, Nat.pow_zero, Nat.mul_one] at this
                  omega
                · exact g
              obtain ⟨f, rfl⟩ : ∃ f2, f = f2 + 1 := ⟨f - 1, by omega⟩
              have HZ := Lib.hid hz
              clear hz hP1 hf
              go_wp2_with fail
              refine ⟨⟨⟨n2 * 10, f, j + 1, by go_num, by go_num, by omega, by omega, by omega, Lib.hid ?_⟩, trivial⟩, by simp [intOf]; go_num⟩
              have h := hmm.out
              rw [mul10, if_pos HZ.out] at h
              refine ⟨h.1, ?_⟩
              have h2 := h.2
              rw [Nat.pow_succ] at h2
              have : n2 * (2 ^ f * 2) ≤ n2 * 10 * 2 ^ f := by
                rw [Nat.mul_assoc, Nat.mul_comm (2 ^ f) 2]
                exact Nat.mul_le_mul_left _ (Nat.mul_le_mul_right _ (by decide))
              omega
            · have q3 : ((n2 : Int) / 2 ^ k == 0) = false := by rw [shr_cast, beq_eq_false_iff_ne]; omega
              have hs := mul10_stop f (s.ds.length + j) hz
              have HS := Lib.hid hs
              clear hs hz
              go_wp2_with fail
              go_meet
              refine ⟨⟨n2, s.ds.length + j, rfl, rfl, by omega, Lib.hid ?_⟩, rfl⟩
              have h := hmm.out.1
              rw [HS.out] at h
              obtain ⟨a1, a2, a3⟩ := HM.out
              rw [← h] at a1 a2
              refine ⟨a1.symm, a2.symm, ?_⟩
              rw [a3, List.drop_of_length_le (by omega)]
      · have q : ((n : Int) / 2 ^ k == 0) = false := by rw [shr_cast, beq_eq_false_iff_ne]; omega
        have hs := pick_stop (r := r) (s.ds.drop r) hz
        have HS := Lib.hid hs
        clear hs hz
        go_wp2_with fail
        go_meet
        refine ⟨⟨n, r, rfl, rfl, by omega, Lib.hid ?_⟩, rfl⟩
        rw [← hp.out.1]
        exact HS.out
  case rest => as_aux_lemma =>
    obtain ⟨⟨n, r, rfl, rfl, hr, hpk⟩, rfl⟩ := hcut
    obtain ⟨n', r', rest, e1, e2, e3, e4, e5, e6, e7, e8⟩ := right_spec k s HOK.out
    have hpk2 := hpk.out
    rw [e1] at hpk2
    obtain ⟨p1, p2, p3⟩ := hpk2
    have p1 : n' = n := p1
    have p2 : r' = r := p2
    have p3 : rest = s.ds.drop r := p3
    subst p1 p2 p3
    have hright : right k s = ⟨trimZ ((divGo k n' (s.ds.drop r')).take 800), s.dp - ((r' : Int) - 1), s.tr || lost (divGo k n' (s.ds.drop r'))⟩ := by
      unfold right; rw [e1]
    have HR := Lib.hid hright; have HG := Lib.hid e5; have HH := Lib.hid e6
    clear e1 e4 e5 e6 e7 e8 hright hpk HPOS
    have y8 := HD.out.nd; have y9 := HD.out.dp; have yz := HD.out.fz
    have j1 : wrap64 ((r' : Int) - 1) = (r' : Int) - 1 := w64_in (by omega) (by omega)
    have j2 : wrap64 (s.dp - ((r' : Int) - 1)) = s.dp - ((r' : Int) - 1) := w64_in (by omega) (by omega)
    have hPz : ((2 : Int) ^ k) = ((2 ^ k : Nat) : Int) := by push_cast; rfl
    have u1 : IntKind.u64.wrap ((2 : Int) ^ k) = (2 : Int) ^ k := u64_in (by rw [hPz]; omega) (by rw [hPz]; omega)
    obtain ⟨M, hM⟩ : ∃ M : Nat, 2 ^ k - 1 = M := ⟨_, rfl⟩
    have u2 : IntKind.u64.wrap ((2 : Int) ^ k - 1) = (M : Int) := by rw [u64_in (by rw [hPz]; omega) (by rw [hPz]; omega), hPz]; omega
    have hand := fun (n : Nat) (hn : n < 2 ^ k * 10) => and_mask n k (by omega) hP
    rw [hM] at hand
    have hdv : ∀ n : Nat, n < 2 ^ k * 10 → n / 2 ^ k ≤ 9 ∧ n % 2 ^ k < 2 ^ k := fun n hn => ⟨by have := lt_of_div hn; omega, Nat.mod_lt _ hP1⟩
    have HAND := Lib.hid hand; have HDV := Lib.hid hdv
    clear p1 p2 p3 hand hdv hM hPz
    have hd2 := HD.out.setDp (s.dp - ((r' : Int) - 1))
    obtain ⟨dp2, hdp2⟩ : ∃ d2 : Int, s.dp - ((r' : Int) - 1) = d2 := ⟨_, rfl⟩
    rw [hdp2] at HR j2 hd2
    obtain ⟨o, ho⟩ : ∃ o, divGo k n' (s.ds.drop r') = o := ⟨_, rfl⟩
    rw [ho] at HR HG HH
    have HO := Lib.hid ho; have HDP := Lib.hid hdp2; have HD2 := Lib.hid hd2
    clear ho hd2 hdp
    go_upto_region 15 with fail
    clear hdp2 HDP y8 y9 yz j1 j2
    have hdk : DK b w (w.setCell ⟨b, 801, none⟩ (.int .i64 dp2)) := dk_set _ _ _ _
    have HDK := Lib.hid hdk
    clear hdk
    generalize World.setCell w _ _ = W1 at *
    go_loopw [4, 5, 6] (fun v4 v5 v6 wr => ∃ (n r m : Nat) (done : List Nat) (ar2 : Nat → Nat), v4 = .int .i64 (r : Int) ∧ v5 = .int .i64 (m : Int) ∧ v6 = .int .u64 (n : Int) ∧ m = done.length ∧ r = r' + m ∧ m ≤ 800 ∧ (m = 0 ∨ r ≤ s.ds.length) ∧ n < 2 ^ k * 10 ∧ Hid (done ++ divGo k n (s.ds.drop r) = o) ∧ Hid (DArr wr b ar2 (s.ds.length : Int) dp2 ∧ Lies ar2 done ∧ ∀ i, m ≤ i → ar2 i = arr i) ∧ Hid (DK b w wr)) (fun v4 _ _ _ => s.ds.length - (intOf v4).toNat)
    case atStart => exact ⟨n', r', 0, [], arr, rfl, rfl, rfl, rfl, rfl, by omega, .inl rfl, e3, Lib.hid HO.out, Lib.hid ⟨HD2.out, fun i hi => absurd hi (by simp), fun _ _ => rfl⟩, HDK⟩
    case round =>
      obtain ⟨n, r, m, done, ar2, rfl, rfl, rfl, hm, hr2, hm8, hmr, hn, hgo, hda, hdk⟩ := hrel
      have y8 := hda.out.1.nd; have yz := hda.out.1.fz
      obtain ⟨q9, qr⟩ := HDV.out n hn
      have qand := HAND.out n hn
      have qdv := shr_cast n k
      by_cases hrl : r < s.ds.length
      · have i1 : (r : Int) < (s.ds.length : Int) := by omega
        have i2 : (0 : Int) ≤ (r : Int) := by omega
        have i3 : (r : Int) < 800 := by omega
        have i4 : (m : Int) < 800 := by omega
        have i5 : (0 : Int) ≤ (m : Int) := by omega
        have yr := hda.out.1.d r (by omega)
        rw [hda.out.2.2 r (by omega), HL.out r hrl] at yr
        have ym := hda.out.1.d m (by omega)
        have hg := HOK.out.dg s.ds[r] (List.getElem_mem hrl)
        have hdr := List.drop_eq_getElem_cons hrl
        generalize s.ds[r]'hrl = d at *
        have hgo2 := hgo.out
        rw [hdr, divGo] at hgo2
        generalize n / 2 ^ k = Q at *
        generalize n % 2 ^ k = R at *
        have HGO2 := Lib.hid hgo2; have HM := Lib.hid hm; have HR2 := Lib.hid hr2
        clear hgo2 hdr hgo hm hr2
        go_wp2_with fail
        have hv : (Q : Int) + 48 = ((48 + Q : Nat) : Int) := by push_cast; omega
        rw [hv]
        have hml := HM.out
        have hrl2 := HR2.out
        have hmr3 : m < r' + m ∨ m < 800 := by omega
        refine ⟨⟨R * 10 + d, r + 1, m + 1, done ++ [Q], upd ar2 m (48 + Q), by go_num, by go_num, by go_num, by simp [hml], by omega, by omega, .inr (by omega), by omega, Lib.hid ?_, Lib.hid ⟨hda.out.1.setD m (48 + Q) (by omega), ?_, fun i hi => ?_⟩, Lib.hid (hdk.out.trans (dk_set _ _ _ _))⟩, by simp [intOf]; go_num⟩
        · rw [List.append_assoc]; exact HGO2.out
        · rw [hml]; exact lies_snoc hda.out.2.1
        · unfold upd
          rw [if_neg (by omega)]
          exact hda.out.2.2 i (by omega)
      · have i1 : ¬ (r : Int) < (s.ds.length : Int) := by omega
        have hnil : s.ds.drop r = [] := List.drop_of_length_le (by omega)
        have hgo2 := hgo.out
        rw [hnil] at hgo2
        have HGO2 := Lib.hid hgo2; have HM := Lib.hid hm; have HR2 := Lib.hid hr2
        clear hgo2 hnil hgo hm hr2 qand qdv
        go_upto_region 23 with fail
        rw [divGo] at HGO2
        clear HO HD HD2 HDK hmr hrl i1 y8 e2 e3
        have hml := HM.out
        have htk : done.take 800 = done := List.take_of_length_le (by omega)
        have hlies : Lies ar2 (done.take 800) := by rw [htk]; exact hda.out.2.1
        have HLS := Lib.hid hlies; have HML := Lib.hid hml
        clear htk hlies hml HM HR2 yz q9 qr
        go_loopg [5, 6] (k + 2) (fun g v5 v6 wr => ∃ (n m i : Nat) (done : List Nat) (ar2 : Nat → Nat), v5 = .int .i64 (m : Int) ∧ v6 = .int .u64 (n : Int) ∧ Hid (m = min 800 done.length) ∧ m ≤ 800 ∧ n < 2 ^ k * 10 ∧ i + g = k + 2 ∧ Hid ((i ≤ k → 2 ^ i ∣ n) ∧ (k < i → n = 0)) ∧ Hid (done ++ divTail k g n = o) ∧ Hid (DArr wr b ar2 (s.ds.length : Int) dp2 ∧ Lies ar2 (done.take 800)) ∧ Hid (DK b w wr))
        case atStart => exact ⟨n, m, 0, done, ar2, rfl, rfl, Lib.hid (by have := HML.out; omega), hm8, hn, by omega, Lib.hid ⟨fun _ => by simp, fun h => by omega⟩, HGO2, Lib.hid ⟨hda.out.1, HLS.out⟩, hdk⟩
        case round =>
          obtain ⟨n, m, i, done, ar2, rfl, rfl, hml, hm8, hn, hig, hpw, hgo, hda, hdk⟩ := hrel
          have y8 := hda.out.1.nd; have yz := hda.out.1.fz
          obtain ⟨q9, qr⟩ := HDV.out n hn
          have qand := HAND.out n hn
          have qdv := shr_cast n k
          by_cases hn0 : n = 0
          · have hfin : done = o := by
              have h := hgo.out
              rw [hn0] at h
              have hz : divTail k gk 0 = [] := by cases gk <;> simp [divTail]
              rw [hz, List.append_nil] at h
              exact h
            subst hfin
            have i1 : ¬ (0 : Int) < (n : Int) := by omega
            have hlen : ((done.take 800).length : Int) = (m : Int) := by have := hml.out; rw [List.length_take]; omega
            have hht : Hd (done.take 800) := by
              obtain ⟨d, t, e, h0⟩ := HH.out
              exact ⟨d, t.take 799, by rw [e]; rfl, h0⟩
            have hnd := hda.out.1.setNd (m : Int)
            have htr := fun W (hW : DArr W b ar2 (m : Int) dp2) => trim_any b ar2 (done.take 800) dp2 W (by rw [hlen]; exact hW) hda.out.2 (by rw [List.length_take]; omega) (fun d hd => HG.out d (List.mem_of_mem_take hd))
            rw [trimDp_hd hht] at htr
            have HTR := Lib.hid htr; have HND := Lib.hid hnd
            clear hlen hht hnd htr qand qdv q9 qr hgo
            go_wp2_with (first | (go_at_call 175; refine (HTR.out _ HND.out).mono ?_; rintro e w9 ⟨rfl, h9, k9⟩) | fail)
            go_end0
            refine ⟨rfl, ?_, hdk.out.trans ((dk_set _ _ _ _).trans k9)⟩
            rw [HR.out]
            exact h9
          · have i1 : (0 : Int) < (n : Int) := by omega
            have hik : i ≤ k := by
              rcases Nat.lt_or_ge k i with g | g
              · exact absurd (hpw.out.2 g) hn0
              · exact g
            have hgk : 1 ≤ gk := by omega
            obtain ⟨g3, rfl⟩ : ∃ g3, gk = g3 + 1 := ⟨gk - 1, by omega⟩
            have hgo2 := hgo.out
            rw [divTail, if_neg hn0] at hgo2
            have hdvd : 2 ^ i ∣ n % 2 ^ k := (Nat.dvd_mod_iff (Nat.pow_dvd_pow 2 hik)).2 (hpw.out.1 hik)
            have hpw2 : (i + 1 ≤ k → 2 ^ (i + 1) ∣ n % 2 ^ k * 10) ∧ (k < i + 1 → n % 2 ^ k * 10 = 0) := by
              refine ⟨fun _ => ?_, fun g => ?_⟩
              · obtain ⟨x, hx⟩ := hdvd
                rw [hx]
                exact ⟨x * 5, by rw [Nat.pow_succ, Nat.mul_assoc, Nat.mul_assoc]; congr 1; omega⟩
              · have : i = k := by omega
                subst this
                rw [Nat.mod_eq_zero_of_dvd (hpw.out.1 hik)]
            generalize n / 2 ^ k = Q at *
            generalize n % 2 ^ k = R at *
            have HGO2 := Lib.hid hgo2; have HPW2 := Lib.hid hpw2
            clear hgo2 hpw2 hdvd hgo hpw
            by_cases hm : m < 800
            · have i4 : (m : Int) < 800 := by omega
              have i5 : (0 : Int) ≤ (m : Int) := by omega
              have ym := hda.out.1.d m hm
              have hdl : m = done.length := by have := hml.out; omega
              have HDL := Lib.hid hdl
              clear hdl hml
              go_wp2_with fail
              have hv : (Q : Int) + 48 = ((48 + Q : Nat) : Int) := by push_cast; omega
              rw [hv]
              go_roundg g3
              case measure => omega
              case rel =>
                have hdl := HDL.out
                refine ⟨R * 10, m + 1, i + 1, done ++ [Q], upd ar2 m (48 + Q), by go_num, by go_num, Lib.hid (by simp; omega), by omega, by omega, by omega, HPW2, Lib.hid ?_, Lib.hid ⟨hda.out.1.setD m (48 + Q) hm, ?_⟩, Lib.hid (hdk.out.trans (dk_set _ _ _ _))⟩
                · rw [List.append_assoc]; exact HGO2.out
                · have h2 := hda.out.2
                  rw [List.take_of_length_le (by omega)] at h2
                  rw [List.take_of_length_le (by simp; omega), hdl]
                  exact lies_snoc h2
            · have i4 : ¬ (m : Int) < 800 := by omega
              have htk : (done ++ [Q]).take 800 = done.take 800 := by
                have := hml.out
                rw [List.take_append_of_le_length (by omega)]
              have hmm : m = min 800 (done ++ [Q]).length := by have := hml.out; simp; omega
              have HTK := Lib.hid htk; have HMM := Lib.hid hmm
              obtain ⟨tr0, y3⟩ := hda.out.1.tr
              clear htk hmm hml
              by_cases hq : Q = 0
              · have q0 : ¬ (0 : Int) < (Q : Int) := by omega
                go_wp2_with fail
                go_roundg g3
                case measure => omega
                case rel =>
                  exact ⟨R * 10, m, i + 1, done ++ [Q], ar2, rfl, by go_num, HMM, by omega, by omega, by omega, HPW2, Lib.hid (by rw [List.append_assoc]; exact HGO2.out), Lib.hid ⟨hda.out.1, by rw [HTK.out]; exact hda.out.2⟩, hdk⟩
              · have q0 : (0 : Int) < (Q : Int) := by omega
                go_wp2_with fail
                go_roundg g3
                case measure => omega
                case rel =>
                  exact ⟨R * 10, m, i + 1, done ++ [Q], ar2, rfl, by go_num, HMM, by omega, by omega, by omega, HPW2, Lib.hid (by rw [List.append_assoc]; exact HGO2.out), Lib.hid ⟨hda.out.1.setTr true, by rw [HTK.out]; exact hda.out.2⟩, Lib.hid (hdk.out.trans (dk_set _ _ _ _))⟩
end Go.Proofs.YtnccpddjdgndcaaGreatDoor.Dc
end

section
/- THE SHEET OF strconv's leftShift, ITS WALK. -/
namespace Go.Proofs.YtnccpddjdgndcaaGreatDoor.Dc
open Go.RowKit
/-- the digits of 5^k; how many a shift by k adds -/
def ct (k : Nat) : List Nat := (mulTail 43 (5 ^ k)).reverse
def dl (k : Nat) : Nat := k + 1 - (ct k).length
def ctB (k : Nat) : List UInt8 := (ct k).map fun d => UInt8.ofNat (48 + d)
theorem five_end : ∀ m : Nat, 5 ^ (m + 1) % 10 = 5
  | 0 => rfl
  | m + 1 => by
    have := five_end m
    rw [Nat.pow_succ]
    omega
theorem row_all (k : Nat) (h1 : 1 ≤ k) (hk : k ≤ 60) : Row k (dl k) (ct k) := by
  have h43 : 5 ^ k < 10 ^ 43 := by
    have : 5 ^ k ≤ 5 ^ 60 := Nat.pow_le_pow_right (by decide) hk
    have : (5 : Nat) ^ 60 < 10 ^ 43 := by decide
    omega
  have p5 : 0 < 5 ^ k := Nat.pow_pos (by decide)
  obtain ⟨e1, e2, _, e4⟩ := mulTail_spec 43 (5 ^ k) h43
  obtain ⟨f1, f2⟩ := e4 (by omega)
  have hg : Dg (ct k) := fun d hd => e1 d (List.mem_reverse.1 hd)
  have hv : val (ct k) = 5 ^ k := by unfold ct; rw [← lv_val, e2]
  have hlen : (ct k).length = (mulTail 43 (5 ^ k)).length := List.length_reverse
  have hlk : (ct k).length ≤ k + 1 := by
    rw [hlen]
    rcases Nat.lt_or_ge k ((mulTail 43 (5 ^ k)).length - 1) with g | g
    · exfalso
      have a : 10 ^ (k + 1) ≤ 10 ^ ((mulTail 43 (5 ^ k)).length - 1) := Nat.pow_le_pow_right (by decide) g
      have b : 5 ^ k ≤ 10 ^ k := Nat.pow_le_pow_left (by decide) k
      have c : 10 ^ k < 10 ^ (k + 1) := Nat.pow_lt_pow_right (by decide) (by omega)
      omega
    · omega
  refine ⟨hv, by unfold dl; omega, hg, ?_, ?_⟩
  · cases hc : ct k with
    | nil => rw [hc] at hlen; simp at hlen; omega
    | cons d r =>
      refine ⟨d, r, rfl, ?_⟩
      rintro rfl
      have := val_lt r fun x hx => hg x (by rw [hc]; exact List.mem_cons_of_mem _ hx)
      rw [← hlen, ← hv, hc, val_cons, List.length_cons, Nat.add_sub_cancel] at f2
      omega
  · have h5 : 5 ^ k % 10 = 5 := by
      obtain ⟨m, rfl⟩ : ∃ m, k = m + 1 := ⟨k - 1, by omega⟩
      exact five_end m
    refine ⟨(mulTail 42 (5 ^ k / 10)).reverse, 5, ?_, by decide⟩
    have : mulTail 43 (5 ^ k) = 5 ^ k % 10 :: mulTail 42 (5 ^ k / 10) := by
      show (if 5 ^ k = 0 then [] else _) = _
      rw [if_neg (Nat.ne_of_gt p5)]
    unfold ct
    rw [this, h5, List.reverse_cons]
theorem ctB_len (k : Nat) : (ctB k).length = (ct k).length := List.length_map ..
/-- the sheet as it lies -/
def LcT (w : World) : Prop := ∃ R o c : Nat, w.cell? ⟨17, 0, none⟩ = some (.slice (some ⟨R, o, none⟩) 61 c) ∧
  ∀ k, 1 ≤ k → k ≤ 60 → w.cell? ⟨R, o + k * 2, none⟩ = some (.int .i64 ((dl k : Nat) : Int)) ∧ w.cell? ⟨R, o + k * 2 + 1, none⟩ = some (.string ⟨(ctB k).toArray⟩)
theorem LcT.drewN {w : World} (h : LcT w) (n : Nat) : LcT (w.drewN n) := by
  obtain ⟨R, o, c, h1, h2⟩ := h
  exact ⟨R, o, c, by simpa using h1, fun k a b => by simpa using h2 k a b⟩
theorem shl_cast (n k : Nat) : (n : Int) * 2 ^ k = ((n * 2 ^ k : Nat) : Int) := by push_cast; rfl
theorem rev_at (a r : List Nat) (x : Nat) : ((a ++ x :: r).reverse).getD r.length 0 = x := by
  rw [List.reverse_append, List.reverse_cons, List.append_assoc, List.getD_eq_getElem?_getD, List.getElem?_append_right (by simp)]
  simp
set_option maxRecDepth 20000 in
set_option maxHeartbeats 4000000 in
theorem left_walk (b k : Nat) (s : DS) (w : World) (hd : DAt w b s.ds s.dp) (hok : Ok s) (h1 : 1 ≤ k) (hk : k ≤ 60) (hdp : -100000 ≤ s.dp ∧ s.dp ≤ 100000) (hLc : LcT w) :
    Calls Tryz.prog 176 #[.pointer (some ⟨b, 0, none⟩), .int .u64 (k : Int)] w fun e w' => e = .returned (.tuple #[]) ∧ DAt w' b (left k s).ds (left k s).dp ∧ DK b w w' := by
  obtain ⟨arr, hD, hL, h8⟩ := hd
  obtain ⟨R, o, c, g0, g1⟩ := hLc
  obtain ⟨g2, g3⟩ := g1 k h1 hk
  have hrow := row_all k h1 hk
  have hll := left_len hrow hk s.ds hok.dg hok.hd
  have hcl : (ct k).length ≤ 61 := by have := hrow.len; omega
  have hpl := fun W (hW : Shows W b s.ds) => pless_any b 800 s.ds (ctB k) (ct k) W hW hok.dg h8 (ctB_len k) (by rw [ctB_len]; omega) (fun i h => by
    have h9 := hrow.dg _ (List.getElem_mem h)
    unfold ctB
    rw [List.getElem_map]
    show (48 + (ct k)[i]) % 256 = _
    omega) hrow.dg
  have hls := left_spec k hk s hok
  have hP : 2 ^ k ≤ 1152921504606846976 := Nat.le_trans (Nat.pow_le_pow_right (by decide) hk) (by decide)
  have hdl : dl k ≤ 61 := by unfold dl; omega
  have HD := Lib.hid hD; have HL := Lib.hid hL; have HOK := Lib.hid hok; have HPL := Lib.hid hpl; have HLL := Lib.hid hll; have HLS := Lib.hid hls
  have hshow : Shows w b s.ds := fun i hi => by rw [hD.d i (by omega), hL i hi]
  have HSH := Lib.hid hshow
  clear hD hL hok hpl hll hls hrow hcl g1 hshow
  generalize dl k = δ at *
  generalize ctB k = cB at *
  generalize ct k = cL at *
  have y8 := HD.out.nd; have y9 := HD.out.dp; have yz := HD.out.fz
  have i1 : (0 : Int) ≤ (k : Int) := by omega
  have i2 : (k : Int) < 61 := by omega
  have i3 : (0 : Int) ≤ (s.ds.length : Int) := by omega
  have i4 : (s.ds.length : Int) ≤ 800 := by omega
  go_enter Tryz.func176, Tryz.ntmps176
  go_upto_region 1 with fail
  go_quiet ((go_at_call 195; exact Calls.quiet_of (HPL.out _ (fun i hi => by simpa using HSH.out i hi))))
  obtain ⟨pl, hplv⟩ : ∃ pl, preLess s.ds cL = pl := ⟨_, rfl⟩
  rw [hplv]
  replace HLL := HLL.out
  rw [hplv] at HLL
  have hnl : ∃ l : Nat, (mulGo k 0 s.ds.reverse).length = l := ⟨_, rfl⟩
  obtain ⟨l, hl⟩ := hnl
  rw [hl] at HLL
  have HL0 := Lib.hid hl
  have hls4 := HLS.out.2.2.2
  rw [hl] at hls4
  clear hl hplv HPL HSH g0 g2 g3
  obtain ⟨E, hE⟩ : ∃ E : Nat, l = s.ds.length + E := ⟨l - s.ds.length, by omega⟩
  have HE := Lib.hid hE
  have hE61 : E ≤ 61 := by have := HLL.1; split at this <;> omega
  clear hE
  go_upto_if 30 with fail
  go_cut [4] from 31 to 32 (fun v4 wx => v4 = .int .i64 (E : Int) ∧ w.drewN nq = wx)
  case first => as_aux_lemma =>
    have hE := HE.out
    obtain ⟨l1, l2⟩ := HLL
    cases pl
    · simp only [Bool.false_eq_true, if_false] at l1
      have : δ = E := by omega
      subst this
      clear hE l1 l2
      go_wp2_with fail
      go_meet
      exact ⟨rfl, rfl⟩
    · simp only [if_true] at l1 l2
      have : δ = E + 1 := by omega
      subst this
      clear hE l1 l2
      go_wp2_with fail
      go_meet
      first | exact ⟨rfl, rfl⟩ | exact ⟨by go_num, rfl⟩
  case rest => as_aux_lemma =>
    obtain ⟨rfl, rfl⟩ := hcut
    have HD2 := Lib.hid (HD.out.drewN nq)
    have HDK := Lib.hid (dk_drewN b nq w)
    clear HLL
    obtain ⟨o, ho⟩ : ∃ o, (mulGo k 0 s.ds.reverse).reverse = o := ⟨_, rfl⟩
    have hlen : o.length = l := by rw [← ho, List.length_reverse]; exact HL0.out
    have hleft : left k s = ⟨trimZ (o.take 800), s.dp + ((l : Int) - (s.ds.length : Int)), s.tr || lost o⟩ := by
      unfold left
      simp only
      rw [ho, hlen]
    have hgo : (mulGo k 0 s.ds.reverse) = o.reverse := by rw [← ho, List.reverse_reverse]
    have hls := HLS.out
    rw [ho] at hls
    have HLS2 := Lib.hid hls; have HGO := Lib.hid hgo; have HLEFT := Lib.hid hleft; have HLEN := Lib.hid hlen
    clear ho hlen hleft hgo hls HLS HL0 hls4
    have y8 := HD2.out.nd; have yz := HD2.out.fz
    clear y9
    go_upto_region 7 with fail
    generalize w.drewN nq = W1 at *
    go_loopw [5, 6, 7] (fun v5 v6 v7 wr => ∃ (m p n : Nat) (done : List Nat) (ar2 : Nat → Nat), v5 = .int .i64 ((m : Int) - 1) ∧ v6 = .int .i64 (p : Int) ∧ v7 = .int .u64 (n : Int) ∧ m ≤ s.ds.length ∧ Hid (p = m + E ∧ done.length + m = s.ds.length) ∧ n ≤ 2 ^ k ∧ Hid (done ++ mulGo k n (s.ds.take m).reverse = o.reverse) ∧ Hid (DArr wr b ar2 (s.ds.length : Int) s.dp ∧ (∀ i, i < m → ar2 i = arr i) ∧ ∀ i, i < 800 → p ≤ i → i < l → ar2 i = 48 + o.getD i 0) ∧ Hid (DK b w wr)) (fun v5 _ _ _ => (intOf v5 + 1).toNat)
    case atStart =>
      have hE := HE.out
      exact ⟨s.ds.length, s.ds.length + E, 0, [], arr, rfl, by go_num, rfl, Nat.le_refl _, Lib.hid ⟨rfl, by simp⟩, Nat.zero_le _, Lib.hid (by rw [List.take_length, List.nil_append]; exact HGO.out), Lib.hid ⟨HD2.out, fun _ _ => rfl, fun i _ h1 h2 => by omega⟩, HDK⟩
    case round =>
      obtain ⟨m, p, n, done, ar2, hv5, rfl, rfl, hm, hpm, hn, hgo, hda, hdk⟩ := hrel
      have y8 := hda.out.1.nd; have yz := hda.out.1.fz
      by_cases hm0 : m = 0
      · subst hm0
        subst hv5
        clear hm
        obtain ⟨hp1, hp2⟩ := hpm.out
        have hgo2 := hgo.out
        rw [List.take_zero, List.reverse_nil, mulGo] at hgo2
        have h20 : n < 10 ^ 20 := by have : (1152921504606846976 : Nat) < 10 ^ 20 := by decide
                                     omega
        have HGO2 := Lib.hid hgo2; have HPM := Lib.hid (show p + done.length = l by have := HE.out; omega); have H20 := Lib.hid h20
        clear hgo2 hgo hpm hp1 hp2 h20
        go_upto_region 18 with fail
        clear y8 yz
        go_loopg [6, 7] 20 (fun g v6 v7 wr => ∃ (n p : Nat) (done : List Nat) (ar2 : Nat → Nat), v6 = .int .i64 (p : Int) ∧ v7 = .int .u64 (n : Int) ∧ n ≤ 1152921504606846976 ∧ Hid (n < 10 ^ g) ∧ Hid (p + done.length = l) ∧ p ≤ 900 ∧ Hid (done ++ mulTail g n = o.reverse) ∧ Hid (DArr wr b ar2 (s.ds.length : Int) s.dp ∧ ∀ i, i < 800 → p ≤ i → i < l → ar2 i = 48 + o.getD i 0) ∧ Hid (DK b w wr))
        case atStart => exact ⟨n, p, done, ar2, rfl, rfl, by omega, H20, HPM, by have := HPM.out; have := HE.out; omega, HGO2, Lib.hid ⟨hda.out.1, hda.out.2.2⟩, hdk⟩
        case round =>
          obtain ⟨n, p, done, ar2, rfl, rfl, hnb, hn, hpd, hp9, hgo, hda, hdk⟩ := hrel
          have y8 := hda.out.1.nd; have y9 := hda.out.1.dp; have yz := hda.out.1.fz
          by_cases hn0 : n = 0
          · have i0 : ¬ (0 : Int) < (n : Int) := by omega
            have hfin : done.length = l ∧ p = 0 := by
              have h := hgo.out
              have hz : mulTail gk n = [] := by rw [hn0]; cases gk <;> simp [mulTail]
              rw [hz, List.append_nil] at h
              have h2 := congrArg List.length h
              rw [List.length_reverse, HLEN.out] at h2
              have := hpd.out
              omega
            obtain ⟨_, rfl⟩ := hfin
            obtain ⟨f1, f2, f3, f4⟩ := HLS2.out
            have hE := HE.out
            have hlen := HLEN.out
            have hht : Hd (o.take 800) := by
              obtain ⟨d, t, e, h0⟩ := f2
              exact ⟨d, t.take 799, by rw [e]; rfl, h0⟩
            have htl : (o.take 800).length = min 800 l := by rw [List.length_take, hlen]
            have hlies : Lies ar2 (o.take 800) := fun i hi => by
              rw [htl] at hi
              rw [hda.out.2 i (by omega) (Nat.zero_le _) (by omega), List.getD_eq_getElem?_getD, List.getElem?_eq_getElem (by omega), List.getElem_take]
              rfl
            have htr := fun W dp (hW : DArr W b ar2 ((o.take 800).length : Int) dp) => trim_any b ar2 (o.take 800) dp W hW hlies (by rw [htl]; omega) (fun d hd => f1 d (List.mem_of_mem_take hd))
            have htr2 : ∀ W dp, DArr W b ar2 ((o.take 800).length : Int) dp → Calls Tryz.prog 175 #[.pointer (some ⟨b, 0, none⟩)] W fun e w' => e = .returned (.tuple #[]) ∧ DAt w' b (trimZ (o.take 800)) dp ∧ DK b W w' := fun W dp hW => by
              have := htr W dp hW
              rw [trimDp_hd hht] at this
              exact this
            rw [htl] at htr2
            have hleft := HLEFT.out
            rw [show s.dp + ((l : Int) - (s.ds.length : Int)) = s.dp + (E : Int) by omega] at hleft
            have HTR := Lib.hid htr2; have HLF := Lib.hid hleft
            have j5 : wrap64 (s.dp + (E : Int)) = s.dp + (E : Int) := w64_in (by omega) (by omega)
            have hA := hda.out.1.setNd ((s.ds.length : Int) + (E : Int))
            by_cases h800 : l < 800
            · have j6 : ¬ (800 : Int) ≤ (s.ds.length : Int) + (E : Int) := by omega
              have hB := hA.setDp (s.dp + (E : Int))
              have hmin : ((min 800 l : Nat) : Int) = (s.ds.length : Int) + (E : Int) := by omega
              rw [hmin] at HTR
              have HB := Lib.hid hB
              clear htl hlies htr htr2 hleft hA hmin hE hlen hB hht hgo hn hpd f1 f2 f3 f4
              go_wp2_with (first | (go_at_call 175; refine (HTR.out _ _ HB.out).mono ?_; rintro e w9 ⟨rfl, h9, k9⟩) | fail)
              go_end0
              refine ⟨rfl, ?_, hdk.out.trans ((dk_set _ _ _ _).trans ((dk_set _ _ _ _).trans k9))⟩
              rw [HLF.out]
              exact h9
            · have j6 : (800 : Int) ≤ (s.ds.length : Int) + (E : Int) := by omega
              have hB := (hA.setNd 800).setDp (s.dp + (E : Int))
              have hmin : ((min 800 l : Nat) : Int) = 800 := by omega
              rw [hmin] at HTR
              have HB := Lib.hid hB
              clear htl hlies htr htr2 hleft hA hmin hE hlen hB hht hgo hn hpd f1 f2 f3 f4
              go_wp2_with (first | (go_at_call 175; refine (HTR.out _ _ HB.out).mono ?_; rintro e w9 ⟨rfl, h9, k9⟩) | fail)
              go_end0
              refine ⟨rfl, ?_, hdk.out.trans ((dk_set _ _ _ _).trans ((dk_set _ _ _ _).trans ((dk_set _ _ _ _).trans k9)))⟩
              rw [HLF.out]
              exact h9
          · have i0 : (0 : Int) < (n : Int) := by omega
            obtain ⟨g3, rfl⟩ : ∃ g3, gk = g3 + 1 := ⟨gk - 1, by
              rcases Nat.eq_zero_or_pos gk with g | g
              · have := hn.out; rw [g] at this; simp at this; omega
              · omega⟩
            have hgo2 := hgo.out
            rw [mulTail, if_neg hn0] at hgo2
            have hlt : n / 10 < 10 ^ g3 := by have := hn.out; rw [Nat.pow_succ] at this; omega
            have e1 : (n : Int) / 10 = ((n / 10 : Nat) : Int) := by omega
            have e2 : (n : Int) - 10 * ((n / 10 : Nat) : Int) = ((n % 10 : Nat) : Int) := by omega
            have hR9 : n % 10 ≤ 9 := by omega
            have hQb : n / 10 ≤ 1152921504606846976 := by omega
            generalize n / 10 = Q at *
            generalize n % 10 = Rm at *
            have hlr := congrArg List.length hgo2
            rw [List.length_append, List.length_cons, List.length_reverse, HLEN.out] at hlr
            have hp1 : 1 ≤ p := by have := hpd.out; omega
            obtain ⟨p, rfl⟩ : ∃ q, p = q + 1 := ⟨p - 1, by omega⟩
            have hoat : o.getD p 0 = Rm := by
              have h3 := congrArg List.reverse hgo2
              rw [List.reverse_reverse] at h3
              have h4 := rev_at done (mulTail g3 Q) Rm
              rw [h3] at h4
              rw [show p = (mulTail g3 Q).length by have := hpd.out; omega]
              exact h4
            have HGO2 := Lib.hid hgo2; have HLT := Lib.hid hlt; have HOAT := Lib.hid hoat
            clear hgo2 hlt hoat hlr hgo hn hp1
            obtain ⟨tr0, y3⟩ := hda.out.1.tr
            by_cases hp8 : p < 800
            · have j1 : (p : Int) < 800 := by omega
              have j2 : (0 : Int) ≤ (p : Int) := by omega
              have yp := hda.out.1.d p hp8
              go_wp2_with fail
              have hv : (Rm : Int) + 48 = ((48 + Rm : Nat) : Int) := by push_cast; omega
              rw [hv]
              go_roundg g3
              case measure => omega
              case rel =>
                refine ⟨Q, p, done ++ [Rm], upd ar2 p (48 + Rm), by go_num, rfl, hQb, HLT, Lib.hid (by have := hpd.out; simp; omega), by omega, Lib.hid (by rw [List.append_assoc]; exact HGO2.out), Lib.hid ⟨hda.out.1.setD p (48 + Rm) hp8, fun i h0 h1 h2 => ?_⟩, Lib.hid (hdk.out.trans (dk_set _ _ _ _))⟩
                unfold upd
                by_cases he : i = p
                · rw [if_pos he, he, HOAT.out]
                · rw [if_neg he]; exact hda.out.2 i h0 (by omega) h2
            · have j1 : ¬ (p : Int) < 800 := by omega
              by_cases hr0 : Rm = 0
              · have j3 : ((Rm : Int) != 0) = false := by rw [hr0]; rfl
                go_wp2_with fail
                go_roundg g3
                case measure => omega
                case rel => exact ⟨Q, p, done ++ [Rm], ar2, by go_num, rfl, hQb, HLT, Lib.hid (by have := hpd.out; simp; omega), by omega, Lib.hid (by rw [List.append_assoc]; exact HGO2.out), Lib.hid ⟨hda.out.1, fun i h0 h1 h2 => hda.out.2 i h0 (by omega) h2⟩, hdk⟩
              · have j3 : ((Rm : Int) != 0) = true := by rw [bne_iff_ne]; omega
                go_wp2_with fail
                go_roundg g3
                case measure => omega
                case rel => exact ⟨Q, p, done ++ [Rm], ar2, by go_num, rfl, hQb, HLT, Lib.hid (by have := hpd.out; simp; omega), by omega, Lib.hid (by rw [List.append_assoc]; exact HGO2.out), Lib.hid ⟨hda.out.1.setTr true, fun i h0 h1 h2 => hda.out.2 i h0 (by omega) h2⟩, Lib.hid (hdk.out.trans (dk_set _ _ _ _))⟩
      · obtain ⟨m, rfl⟩ : ∃ q, m = q + 1 := ⟨m - 1, by omega⟩
        rw [show ((m + 1 : Nat) : Int) - 1 = (m : Int) by omega] at hv5
        subst hv5
        have hml : m < s.ds.length := by omega
        have k0 : (0 : Int) ≤ (m : Int) := by omega
        have k1 : (m : Int) < 800 := by omega
        have ym := hda.out.1.d m (by omega)
        rw [hda.out.2.1 m (by omega), HL.out m hml] at ym
        have hd9 := HOK.out.dg s.ds[m] (List.getElem_mem hml)
        have htk := List.take_succ_eq_append_getElem hml
        have hgo2 := hgo.out
        rw [htk, List.reverse_append, List.reverse_singleton, List.singleton_append, mulGo] at hgo2
        generalize s.ds[m]'hml = d at *
        have hV9 : d * 2 ^ k ≤ 9 * 2 ^ k := Nat.mul_le_mul_right _ hd9
        have hVc := shl_cast d k
        generalize d * 2 ^ k = V at *
        have u1 : IntKind.u64.wrap ((V : Int)) = (V : Int) := u64_in (by omega) (by omega)
        have u2 : IntKind.u64.wrap ((d : Int) * 2 ^ k) = (V : Int) := by rw [hVc, u1]
        have u3 : IntKind.u64.wrap ((48 + (d : Int) - 48) * 2 ^ k) = (V : Int) := by rw [show 48 + (d : Int) - 48 = (d : Int) by omega, u2]
        clear u2
        have e1 : ((n : Int) + (V : Int)) / 10 = (((n + V) / 10 : Nat) : Int) := by omega
        have e2 : (n : Int) + (V : Int) - 10 * (((n + V) / 10 : Nat) : Int) = (((n + V) % 10 : Nat) : Int) := by omega
        have hR9 : (n + V) % 10 ≤ 9 := by omega
        have hQb : (n + V) / 10 ≤ 2 ^ k := by omega
        have hQB : (n + V) / 10 * 10 ≤ n + V := by omega
        generalize hQ : (n + V) / 10 = Q at *
        generalize hRm : (n + V) % 10 = Rm at *
        clear hQ hRm
        have hlr := congrArg List.length hgo2
        rw [List.length_append, List.length_cons, List.length_reverse, HLEN.out] at hlr
        obtain ⟨hp1, hp2⟩ := hpm.out
        obtain ⟨p, rfl⟩ : ∃ q, p = q + 1 := ⟨p - 1, by omega⟩
        have hoat : o.getD p 0 = Rm := by
          have h3 := congrArg List.reverse hgo2
          rw [List.reverse_reverse] at h3
          have h4 := rev_at done (mulGo k Q (s.ds.take m).reverse) Rm
          rw [h3] at h4
          rw [show p = (mulGo k Q (s.ds.take m).reverse).length by have := HE.out; omega]
          exact h4
        have HGO2 := Lib.hid hgo2; have HOAT := Lib.hid hoat; have HPM := Lib.hid (show p = m + E ∧ done.length + 1 + m = s.ds.length by omega)
        have hp9 : p ≤ 900 := by omega
        clear hgo2 hoat hlr hgo htk hp1 hp2 hpm hVc u1
        obtain ⟨tr0, y3⟩ := hda.out.1.tr
        by_cases hp8 : p < 800
        · have j1 : (p : Int) < 800 := by omega
          have j2 : (0 : Int) ≤ (p : Int) := by omega
          have yp := hda.out.1.d p hp8
          go_wp2_with fail
          have hv : (Rm : Int) + 48 = ((48 + Rm : Nat) : Int) := by push_cast; omega
          rw [hv]
          refine ⟨⟨m, p, Q, done ++ [Rm], upd ar2 p (48 + Rm), rfl, rfl, by rw [e1], by omega, Lib.hid (by have := HPM.out; simp; omega), hQb, Lib.hid (by rw [List.append_assoc]; exact HGO2.out), Lib.hid ⟨hda.out.1.setD p (48 + Rm) hp8, fun i hi => ?_, fun i h0 h1 h2 => ?_⟩, Lib.hid (hdk.out.trans (dk_set _ _ _ _))⟩, by simp [intOf]⟩
          · unfold upd
            rw [if_neg (by have := HPM.out; omega)]
            exact hda.out.2.1 i (by omega)
          · unfold upd
            by_cases he : i = p
            · rw [if_pos he, he, HOAT.out]
            · rw [if_neg he]; exact hda.out.2.2 i h0 (by omega) h2
        · have j1 : ¬ (p : Int) < 800 := by omega
          by_cases hr0 : Rm = 0
          · have j3 : ((Rm : Int) != 0) = false := by rw [hr0]; rfl
            go_wp2_with fail
            exact ⟨⟨m, p, Q, done ++ [Rm], ar2, rfl, rfl, by rw [e1], by omega, Lib.hid (by have := HPM.out; simp; omega), hQb, Lib.hid (by rw [List.append_assoc]; exact HGO2.out), Lib.hid ⟨hda.out.1, fun i hi => hda.out.2.1 i (by omega), fun i h0 h1 h2 => hda.out.2.2 i h0 (by omega) h2⟩, hdk⟩, by simp [intOf]⟩
          · have j3 : ((Rm : Int) != 0) = true := by rw [bne_iff_ne]; omega
            go_wp2_with fail
            exact ⟨⟨m, p, Q, done ++ [Rm], ar2, rfl, rfl, by rw [e1], by omega, Lib.hid (by have := HPM.out; simp; omega), hQb, Lib.hid (by rw [List.append_assoc]; exact HGO2.out), Lib.hid ⟨hda.out.1.setTr true, fun i hi => hda.out.2.1 i (by omega), fun i h0 h1 h2 => hda.out.2.2 i h0 (by omega) h2⟩, Lib.hid (hdk.out.trans (dk_set _ _ _ _))⟩, by simp [intOf]⟩
end Go.Proofs.YtnccpddjdgndcaaGreatDoor.Dc
end

section
/- PLAIN: the shifts of a decimal halve it; how far they move the point. No program in sight. -/
namespace Go.Proofs.YtnccpddjdgndcaaGreatDoor.Dc
/-- what is above the point is halved -/
theorem right_half (k : Nat) (s : DS) (h : Ok s) (hk : 1 ≤ k) (hp : 0 < s.dp) : 2 * fl (right k s).ds (right k s).dp ≤ fl s.ds s.dp := by
  have h1 := fl_pos h hp
  obtain ⟨n, r, rest, e1, _, _, _, f1, f2, f3, f4⟩ := right_spec k s h
  unfold right
  rw [e1]
  simp only
  rw [fl_trim]
  refine Nat.le_trans (Nat.mul_le_mul_left 2 (fl_take _ _ _)) ?_
  generalize divGo k n rest = o at *
  have hvl := val_lt o f1
  have p10 : ∀ m : Nat, 0 < 10 ^ m := fun m => Nat.pow_pos (by decide)
  by_cases hd : 0 ≤ s.dp - ((r : Int) - 1)
  · obtain ⟨m, hm⟩ : ∃ m : Nat, s.dp - ((r : Int) - 1) = m := ⟨(s.dp - ((r : Int) - 1)).toNat, by omega⟩
    obtain ⟨q, hq⟩ : ∃ q : Nat, s.dp = q := ⟨s.dp.toNat, by omega⟩
    have hmq : m + r = q + 1 := by omega
    unfold fl at h1 ⊢
    have hq2 : s.dp.toNat = q := by omega
    have hm2 : (s.dp - ((r : Int) - 1)).toNat = m := by omega
    rw [hq2] at h1 ⊢
    rw [hm2]
    have a1 := Nat.div_mul_le_self (val o * 10 ^ m) (10 ^ o.length)
    generalize hx : val o * 10 ^ m / 10 ^ o.length = X at *
    have key : 2 * X ≤ val s.ds * 10 ^ q / 10 ^ s.ds.length := by
      rw [Nat.le_div_iff_mul_le (p10 _)]
      refine Nat.le_of_mul_le_mul_right (c := 10 ^ o.length * 10) ?_ (Nat.mul_pos (p10 _) (by decide))
      have h2k : 2 ≤ 2 ^ k := by
        calc 2 = 2 ^ 1 := rfl
          _ ≤ 2 ^ k := Nat.pow_le_pow_right (by decide) hk
      calc 2 * X * 10 ^ s.ds.length * (10 ^ o.length * 10)
          = 2 * (X * 10 ^ o.length) * 10 ^ s.ds.length * 10 := by generalize 10 ^ s.ds.length = P; generalize 10 ^ o.length = Q; simp only [Nat.mul_assoc]; congr 2; rw [Nat.mul_left_comm]
        _ ≤ 2 ^ k * (X * 10 ^ o.length) * 10 ^ s.ds.length * 10 := Nat.mul_le_mul_right _ (Nat.mul_le_mul_right _ (Nat.mul_le_mul_right _ h2k))
        _ ≤ 2 ^ k * (val o * 10 ^ m) * 10 ^ s.ds.length * 10 := Nat.mul_le_mul_right _ (Nat.mul_le_mul_right _ (Nat.mul_le_mul_left _ a1))
        _ = val o * 2 ^ k * 10 ^ s.ds.length * 10 * 10 ^ m := by generalize val o = V; generalize 10 ^ s.ds.length = P; generalize 10 ^ m = Q; simp only [Nat.mul_comm, Nat.mul_left_comm, Nat.mul_assoc]
        _ = val s.ds * (10 ^ (r + o.length) * 10 ^ m) := by rw [f4, Nat.mul_assoc]
        _ = val s.ds * (10 ^ q * (10 ^ o.length * 10)) := by
          congr 1
          rw [← Nat.pow_add, show (10 : Nat) ^ o.length * 10 = 10 ^ (o.length + 1) from rfl, ← Nat.pow_add]
          congr 1
          omega
        _ = val s.ds * 10 ^ q * (10 ^ o.length * 10) := by rw [Nat.mul_assoc]
    exact key
  · have hz : (s.dp - ((r : Int) - 1)).toNat = 0 := by omega
    have : fl o (s.dp - ((r : Int) - 1)) = 0 := by
      unfold fl
      rw [hz, Nat.pow_zero, Nat.mul_one]
      exact Nat.div_eq_of_lt hvl
    omega
theorem left_half (k : Nat) (hk1 : 2 ≤ k) (hk : k ≤ 60) (s : DS) (h : Ok s) (hh : Half s) : 2 * iv (left k s).ds (left k s).dp ≤ iv s.ds s.dp := by
  have h2 := iv_two h hh
  have hdp : s.dp ≤ 0 := by rcases hh with g | ⟨g, _⟩ <;> omega
  obtain ⟨f1, f2, f3, f4⟩ := left_spec k hk s h
  unfold left
  simp only
  rw [iv_trim]
  have hlen : ((mulGo k 0 s.ds.reverse).reverse).length = (mulGo k 0 s.ds.reverse).length := List.length_reverse
  rw [← hlen] at f4
  generalize (mulGo k 0 s.ds.reverse).reverse = o at *
  have vpos : 0 < val s.ds := Nat.lt_of_lt_of_le (Nat.pow_pos (by decide)) (val_ge h.hd)
  unfold iv
  by_cases hp : 0 < s.dp + ((o.length : Int) - (s.ds.length : Int))
  · rw [if_pos hp]
    unfold iv at h2
    omega
  rw [if_neg hp]
  unfold iv at h2
  rw [if_neg (by omega)] at h2 ⊢
  have hsplit := (List.take_append_drop 800 o).symm
  have hvo : val o = val (o.take 800) * 10 ^ (o.drop 800).length + val (o.drop 800) := by
    conv => lhs; rw [hsplit]
    exact val_append _ _
  have hgd : val (o.drop 800) < 10 ^ (o.drop 800).length := val_lt _ fun d hd => f1 d (List.mem_of_mem_drop hd)
  have hht : Hd (o.take 800) := by
    obtain ⟨d, r, e, h0⟩ := f2
    exact ⟨d, r.take 799, by rw [e]; rfl, h0⟩
  have vtg := val_ge hht
  have key : 10 * val o ≤ 11 * (val (o.take 800) * 10 ^ (o.drop 800).length) := by
    by_cases hm : (o.drop 800).length = 0
    · rw [hm] at hvo hgd ⊢
      simp only [Nat.pow_zero, Nat.mul_one] at hvo hgd ⊢
      omega
    · have hl8 : (o.take 800).length = 800 := by
        rw [List.length_take]; rw [List.length_drop] at hm; omega
      rw [hl8] at vtg
      have h10 : 10 ≤ val (o.take 800) := Nat.le_trans (by decide +kernel) vtg
      have : 10 * 10 ^ (o.drop 800).length ≤ val (o.take 800) * 10 ^ (o.drop 800).length := Nat.mul_le_mul_right _ h10
      omega
  have hexp : (o.take 800).length + (-(s.dp + ((o.length : Int) - (s.ds.length : Int)))).toNat + (o.drop 800).length = s.ds.length + (-s.dp).toNat := by
    have := congrArg List.length hsplit
    rw [List.length_append] at this
    omega
  have hpw : 10 ^ (s.ds.length + (-s.dp).toNat) = 10 ^ ((o.take 800).length + (-(s.dp + ((o.length : Int) - (s.ds.length : Int)))).toNat) * 10 ^ (o.drop 800).length := by rw [← hexp, Nat.pow_add]
  rw [hpw] at h2 ⊢
  generalize 10 ^ ((o.take 800).length + (-(s.dp + ((o.length : Int) - (s.ds.length : Int)))).toNat) = Y at *
  rw [f3] at key
  generalize val (o.take 800) = T at *
  generalize 10 ^ (o.drop 800).length = M at *
  generalize val s.ds = D at *
  have h2k : 4 ≤ 2 ^ k := by
    calc 4 = 2 ^ 2 := rfl
      _ ≤ 2 ^ k := Nat.pow_le_pow_right (by decide) hk1
  have hD : D * 4 ≤ D * 2 ^ k := Nat.mul_le_mul_left _ h2k
  have a1 := Nat.div_mul_le_self Y T
  have a2 : Y * M < (Y * M / D + 1) * D := by
    have := Nat.lt_mul_div_succ (Y * M) vpos
    rw [Nat.mul_comm D] at this
    exact this
  generalize Y / T = A at *
  generalize Y * M / D = B at *
  have b1 : A * T * M ≤ Y * M := Nat.mul_le_mul_right _ a1
  have b2 : A * (40 * D) ≤ A * (11 * (T * M)) := Nat.mul_le_mul_left _ (by omega)
  have b3 : A * (11 * (T * M)) = 11 * (A * T * M) := by rw [Nat.mul_left_comm, Nat.mul_assoc]
  have b4 : A * 40 * D < (11 * (B + 1)) * D := by
    calc A * 40 * D = A * (40 * D) := Nat.mul_assoc _ _ _
      _ ≤ 11 * (A * T * M) := by rw [← b3]; exact b2
      _ ≤ 11 * (Y * M) := Nat.mul_le_mul_left _ b1
      _ < 11 * ((B + 1) * D) := Nat.mul_lt_mul_of_pos_left a2 (by decide)
      _ = _ := (Nat.mul_assoc _ _ _).symm
  have b5 := Nat.lt_of_mul_lt_mul_right b4
  omega
theorem right_dp (k : Nat) (s : DS) (h : Ok s) (hk1 : 1 ≤ k) (hk : k ≤ 60) : s.dp - 19 ≤ (right k s).dp ∧ (right k s).dp ≤ s.dp := by
  obtain ⟨n, r, rest, e1, _, _, _, f1, f2, f3, f4⟩ := right_spec k s h
  have hdp : (right k s).dp = s.dp - ((r : Int) - 1) := by unfold right; rw [e1]
  rw [hdp]
  generalize divGo k n rest = o at *
  have p10 : ∀ m : Nat, 0 < 10 ^ m := fun m => Nat.pow_pos (by decide)
  have v1 := val_lt o f1
  have v2 := val_ge f2
  have v3 := val_lt s.ds h.dg
  have v4 := val_ge h.hd
  have hl1 : 1 ≤ s.ds.length := by obtain ⟨d, t, e, _⟩ := h.hd; rw [e]; simp
  have k60 : 2 ^ k ≤ 2 ^ 60 := Nat.pow_le_pow_right (by decide) hk
  have k1 : 2 ≤ 2 ^ k := by
    calc 2 = 2 ^ 1 := rfl
      _ ≤ 2 ^ k := Nat.pow_le_pow_right (by decide) hk1
  have up : r ≤ 20 := by
    refine Nat.le_of_lt_succ (Nat.lt_of_not_le fun hr => ?_)
    have c1 : 10 ^ (s.ds.length - 1) * 10 ^ (21 + o.length) ≤ val s.ds * 10 ^ (r + o.length) := Nat.mul_le_mul v4 (Nat.pow_le_pow_right (by decide) (by omega))
    have c2 : val o * 2 ^ k * 10 ^ s.ds.length * 10 ≤ 10 ^ o.length * 2 ^ 60 * 10 ^ s.ds.length * 10 := Nat.mul_le_mul_right _ (Nat.mul_le_mul_right _ (Nat.mul_le_mul (Nat.le_of_lt v1) k60))
    rw [← f4] at c1
    have c3 := Nat.le_trans c1 c2
    have c4 : 10 ^ (s.ds.length - 1) * 10 ^ (21 + o.length) = 10 ^ o.length * 10 ^ s.ds.length * 10 ^ 20 := by
      rw [← Nat.pow_add, ← Nat.pow_add, ← Nat.pow_add]; congr 1; omega
    have c5 : 10 ^ o.length * 2 ^ 60 * 10 ^ s.ds.length * 10 = 10 ^ o.length * 10 ^ s.ds.length * (2 ^ 60 * 10) := by
      generalize (2 : Nat) ^ 60 = T
      rw [Nat.mul_right_comm (10 ^ o.length) T, Nat.mul_assoc _ T 10]
    rw [c4, c5] at c3
    have c6 := Nat.le_of_mul_le_mul_left c3 (Nat.mul_pos (p10 _) (p10 _))
    exact absurd c6 (by decide)
  have low : 1 ≤ r := by
    refine Nat.lt_of_not_le fun hr => ?_
    have hr0 : r = 0 := by omega
    subst hr0
    rw [Nat.zero_add] at f4
    have c1 : val s.ds * 10 ^ o.length < 10 ^ s.ds.length * 10 ^ o.length := Nat.mul_lt_mul_of_pos_right v3 (p10 _)
    have c2 : 10 ^ (o.length - 1) * 2 * 10 ^ s.ds.length * 10 ≤ val o * 2 ^ k * 10 ^ s.ds.length * 10 := Nat.mul_le_mul_right _ (Nat.mul_le_mul_right _ (Nat.mul_le_mul v2 k1))
    have c3 : 10 ^ (o.length - 1) * 2 * 10 ^ s.ds.length * 10 = 10 ^ s.ds.length * (10 ^ (o.length - 1) * 10) * 2 := by
      generalize 10 ^ (o.length - 1) = A
      generalize 10 ^ s.ds.length = B
      simp only [Nat.mul_comm, Nat.mul_left_comm, Nat.mul_assoc]
    have c4 : 10 ^ (o.length - 1) * 10 = 10 ^ o.length := by rw [← Nat.pow_succ]; congr 1; omega
    rw [c3, c4] at c2
    rw [f4] at c2
    generalize 10 ^ s.ds.length * 10 ^ o.length = Z at *
    omega
  omega
theorem left_dp (k : Nat) (s : DS) (h : Ok s) (hk : k ≤ 60) : s.dp ≤ (left k s).dp ∧ (left k s).dp ≤ s.dp + 19 := by
  obtain ⟨f1, f2, f3, f4⟩ := left_spec k hk s h
  have hlen : ((mulGo k 0 s.ds.reverse).reverse).length = (mulGo k 0 s.ds.reverse).length := List.length_reverse
  rw [← hlen] at f4
  have hdp : (left k s).dp = s.dp + ((((mulGo k 0 s.ds.reverse).reverse).length : Int) - (s.ds.length : Int)) := rfl
  rw [hdp]
  generalize (mulGo k 0 s.ds.reverse).reverse = o at *
  have p10 : ∀ m : Nat, 0 < 10 ^ m := fun m => Nat.pow_pos (by decide)
  have v2 := val_ge f2
  have v3 := val_lt s.ds h.dg
  have k60 : 2 ^ k ≤ 2 ^ 60 := Nat.pow_le_pow_right (by decide) hk
  have up : o.length ≤ s.ds.length + 19 := by
    refine Nat.le_of_lt_succ (Nat.lt_of_not_le fun hr => ?_)
    have c1 : 10 ^ (s.ds.length + 19) ≤ val o := Nat.le_trans (Nat.pow_le_pow_right (by decide) (by omega)) v2
    have c2 : val s.ds * 2 ^ k ≤ 10 ^ s.ds.length * 2 ^ 60 := Nat.mul_le_mul (Nat.le_of_lt v3) k60
    rw [f3] at c1
    have c3 := Nat.le_trans c1 c2
    rw [Nat.pow_add] at c3
    have c4 := Nat.le_of_mul_le_mul_left c3 (p10 _)
    exact absurd c4 (by decide)
  omega
theorem fl_le (s : DS) (h : Ok s) (m : Nat) (hp : s.dp ≤ (m : Int)) : fl s.ds s.dp ≤ 10 ^ m := by
  unfold fl
  have v := val_lt s.ds h.dg
  refine Nat.div_le_of_le_mul ?_
  exact Nat.mul_le_mul (Nat.le_of_lt v) (Nat.pow_le_pow_right (by decide) (by omega))
theorem iv_le (s : DS) (h : Ok s) (m : Nat) (hp : -(m : Int) ≤ s.dp) : iv s.ds s.dp ≤ 10 ^ (m + 1) := by
  unfold iv
  have v := val_ge h.hd
  have hl1 : 1 ≤ s.ds.length := by obtain ⟨d, t, e, _⟩ := h.hd; rw [e]; simp
  split
  · exact Nat.zero_le _
  · refine Nat.div_le_of_le_mul ?_
    calc 10 ^ (s.ds.length + (-s.dp).toNat) ≤ 10 ^ (s.ds.length - 1 + (m + 1)) := Nat.pow_le_pow_right (by decide) (by omega)
      _ = 10 ^ (s.ds.length - 1) * 10 ^ (m + 1) := Nat.pow_add ..
      _ ≤ _ := Nat.mul_le_mul_right _ v
end Go.Proofs.YtnccpddjdgndcaaGreatDoor.Dc
end

section
/- THE WALK OF (*decimal).Shift, to the left by at most 60, to the right by any count. -/
namespace Go.Proofs.YtnccpddjdgndcaaGreatDoor.Dc
open Go.RowKit
theorem DAt.ndOf {W : World} {b : Nat} {ds : List Nat} {dp : Int} (h : DAt W b ds dp) : W.cell? ⟨b, 800, none⟩ = some (.int .i64 (ds.length : Int)) := by
  obtain ⟨_, hD, _, _⟩ := h
  exact hD.nd
set_option maxRecDepth 20000 in
set_option maxHeartbeats 2000000 in
theorem shift_left (b k : Nat) (s : DS) (w : World) (hd : DAt w b s.ds s.dp) (hok : Ok s) (h1 : 1 ≤ k) (hk : k ≤ 60) (hdp : -100000 ≤ s.dp ∧ s.dp ≤ 100000) (hLc : LcT w) :
    Calls Tryz.prog 131 #[.pointer (some ⟨b, 0, none⟩), .int .i64 (k : Int)] w fun e w' => e = .returned (.tuple #[]) ∧ DAt w' b (left k s).ds (left k s).dp ∧ DK b w w' := by
  have hl := left_walk b k s w hd hok h1 hk hdp hLc
  have f0 := hd.ndOf
  have hl1 : 1 ≤ s.ds.length := by obtain ⟨d, t, e, _⟩ := hok.hd; rw [e]; simp
  have n0 : ¬ (s.ds.length : Int) = 0 := by omega
  have n1 : ((s.ds.length : Int) == 0) = false := by simpa using n0
  have c1 : (0 : Int) < (k : Int) := by omega
  have c2 : ¬ (60 : Int) < (k : Int) := by omega
  have c3 : IntKind.u64.wrap (k : Int) = (k : Int) := u64_in (by omega) (by omega)
  have HL := Lib.hid hl
  clear hl hd hok hLc
  go_enter Tryz.func131, Tryz.ntmps131
  go_wp2_with fail
  go_loopw [1] (fun v1 wr => v1 = .int .i64 (k : Int) ∧ w = wr) (fun _ _ => 0)
  case atStart => exact ⟨rfl, rfl⟩
  case round =>
    obtain ⟨rfl, rfl⟩ := hrel
    go_wp2_with (first | (go_at_call 176; (refine (HL.out).mono ?_); rintro e w1 ⟨rfl, hd1, hk1⟩) | fail)
    go_end0
    exact ⟨rfl, hd1, hk1⟩
set_option maxRecDepth 20000 in
set_option maxHeartbeats 2000000 in
theorem shift_right (b n : Nat) (s : DS) (w : World) (hd : DAt w b s.ds s.dp) (hok : Ok s) (h1 : 1 ≤ n) (hn : n ≤ 40000) (hdp : -1000 ≤ s.dp ∧ s.dp ≤ 1000) :
    Calls Tryz.prog 131 #[.pointer (some ⟨b, 0, none⟩), .int .i64 (-(n : Int))] w fun e w' => e = .returned (.tuple #[]) ∧ (∃ s2 : DS, DAt w' b s2.ds s2.dp ∧ Ok s2 ∧ (n ≤ 60 → s2 = right n s) ∧ s.dp - (n : Int) - 19 ≤ s2.dp ∧ s2.dp ≤ s.dp) ∧ DK b w w' := by
  have hr := fun (k : Nat) (s3 : DS) (W : World) (hd3 : DAt W b s3.ds s3.dp) (ho3 : Ok s3) (h13 : 1 ≤ k) (hk3 : k ≤ 60) (hdp3 : -100000 ≤ s3.dp ∧ s3.dp ≤ 100000) => right_walk b k s3 W hd3 ho3 h13 hk3 hdp3
  have f0 := hd.ndOf
  have hl1 : 1 ≤ s.ds.length := by obtain ⟨d, t, e, _⟩ := hok.hd; rw [e]; simp
  have n0 : ¬ (s.ds.length : Int) = 0 := by omega
  have n1 : ((s.ds.length : Int) == 0) = false := by simpa using n0
  have c1 : ¬ (0 : Int) < -(n : Int) := by omega
  have c2 : -(n : Int) < 0 := by omega
  have HR := Lib.hid hr; have HD := Lib.hid hd; have HO := Lib.hid hok
  clear hr hd hok
  go_enter Tryz.func131, Tryz.ntmps131
  go_wp2_with fail
  go_loopw [1] (fun v1 wr => ∃ (m : Nat) (s3 : DS), v1 = .int .i64 (-(m : Int)) ∧ 1 ≤ m ∧ m ≤ n ∧ Hid (DAt wr b s3.ds s3.dp ∧ Ok s3 ∧ DK b w wr ∧ (n ≤ 60 → s3 = s ∧ m = n)) ∧ s.dp - ((n : Int) - (m : Int)) ≤ s3.dp ∧ s3.dp ≤ s.dp) (fun v1 _ => (-(intOf v1)).toNat)
  case atStart => exact ⟨n, s, rfl, h1, Nat.le_refl _, Lib.hid ⟨HD.out, HO.out, DK.refl _ _, fun _ => ⟨rfl, rfl⟩⟩, by omega, by omega⟩
  case round =>
    obtain ⟨m, s3, rfl, hm1, hmn, HS, hlo, hhi⟩ := hrel
    obtain ⟨hd3, ho3, hk3, he3⟩ := HS.out
    by_cases hlt : 60 < m
    · have d1 : -(m : Int) < -60 := by omega
      have hcall := HR.out 60 s3 wr hd3 ho3 (by decide) (by decide) ⟨by omega, by omega⟩
      have hdp3 := right_dp 60 s3 ho3 (by decide) (by decide)
      have HC := Lib.hid hcall
      clear hd3 he3 hcall
      go_wp2_with (first | (go_at_call 177; (refine (HC.out).mono ?_); rintro e w1 ⟨rfl, hd1, hk1⟩) | fail)
      refine ⟨⟨m - 60, right 60 s3, by go_num, by omega, by omega, Lib.hid ⟨hd1, right_ok 60 s3 ho3, hk3.trans hk1, fun h => by omega⟩, by omega, by omega⟩, ?_⟩
      simp [intOf]; go_num
    · have d1 : ¬ -(m : Int) < -60 := by omega
      have c3 : IntKind.u64.wrap (m : Int) = (m : Int) := u64_in (by omega) (by omega)
      have hcall := HR.out m s3 wr hd3 ho3 hm1 (by omega) ⟨by omega, by omega⟩
      have hdp3 := right_dp m s3 ho3 hm1 (by omega)
      have HC := Lib.hid hcall; have HE := Lib.hid he3
      clear hd3 he3 hcall
      go_wp2_with (first | (go_at_call 177; (refine (HC.out).mono ?_); rintro e w1 ⟨rfl, hd1, hk1⟩) | fail)
      go_end0
      refine ⟨rfl, ⟨right m s3, hd1, right_ok m s3 ho3, fun h => ?_, by omega, by omega⟩, hk3.trans hk1⟩
      obtain ⟨e1, e2⟩ := HE.out h
      rw [e1, e2]
end Go.Proofs.YtnccpddjdgndcaaGreatDoor.Dc
end

section
/- THE WALKS OF shouldRoundUp AND (*decimal).RoundedInteger: they answer, whatever it be. -/
namespace Go.Proofs.YtnccpddjdgndcaaGreatDoor.Dc
open Go.RowKit
theorem DAt.drewN {W : World} {b : Nat} {ds : List Nat} {dp : Int} (h : DAt W b ds dp) (n : Nat) : DAt (W.drewN n) b ds dp := by
  obtain ⟨arr, hD, hL, h8⟩ := h
  exact ⟨arr, hD.drewN n, hL, h8⟩
def AnsB (e : Ending) : Prop := ∃ t : Bool, e = .returned (.bool t)
def AnsU (e : Ending) : Prop := ∃ u : Int, e = .returned (.int .u64 u) ∧ 0 ≤ u ∧ u < 18446744073709551616
theorem wrap_u64_in (n : Int) : 0 ≤ IntKind.u64.wrap n ∧ IntKind.u64.wrap n < 18446744073709551616 := by rw [IntKind.wrap_u64]; omega
set_option maxRecDepth 20000 in
set_option maxHeartbeats 2000000 in
theorem round_any (b : Nat) (ds : List Nat) (dp n : Int) (w : World) (hd : DAt w b ds dp) (hg : Dg ds) :
    Calls Tryz.prog 178 #[.pointer (some ⟨b, 0, none⟩), .int .i64 n] w fun e w' => AnsB e ∧ w = w' := by
  obtain ⟨arr, hD, hL, h8⟩ := hd
  have f0 := hD.nd
  obtain ⟨tr, f1⟩ := hD.tr
  by_cases h0 : n < 0
  · go_enter Tryz.func178, Tryz.ntmps178
    go_wp2_with fail
    go_ret
    exact ⟨⟨_, rfl⟩, rfl⟩
  by_cases h1 : (ds.length : Int) ≤ n
  · go_enter Tryz.func178, Tryz.ntmps178
    go_wp2_with fail
    go_ret
    exact ⟨⟨_, rfl⟩, rfl⟩
  obtain ⟨m, rfl⟩ : ∃ m : Nat, n = (m : Int) := ⟨n.toNat, by omega⟩
  have hm : m < ds.length := by omega
  have i1 : (m : Int) < 800 := by omega
  have i0 : (0 : Int) ≤ (m : Int) := by omega
  have v := hD.d m (by omega)
  rw [hL m hm] at v
  have hxd := hg ds[m] (List.getElem_mem hm)
  generalize ds[m] = d at *
  by_cases hd5 : d = 5
  · subst hd5
    have v' : w.cell? ⟨b, m, none⟩ = some (.int .u8 53) := v
    clear v
    by_cases hl : m + 1 = ds.length
    · have e2 : (m : Int) + 1 = (ds.length : Int) := by omega
      have e1 : ((m : Int) + 1 == (ds.length : Int)) = true := by simpa using e2
      cases tr
      · cases m with
        | zero =>
          have f3 : w.cell? ⟨b, 800, none⟩ = some (.int .i64 1) := by rw [f0, ← hl]; rfl
          clear f0 e1 e2 h0 h1
          go_enter Tryz.func178, Tryz.ntmps178
          go_wp2_with fail
          go_ret
          exact ⟨⟨_, rfl⟩, rfl⟩
        | succ q =>
          have v2 := hD.d q (by omega)
          rw [hL q (by omega)] at v2
          have hxq := hg ds[q] (List.getElem_mem (by omega))
          generalize ds[q] = d2 at *
          have g1 : (0 : Int) < ((q + 1 : Nat) : Int) := by omega
          have g2 : wrap64 (((q + 1 : Nat) : Int) - 1) = (q : Int) := w64_in (by omega) (by omega) |>.trans (by omega)
          have g3 : (q : Int) < 800 := by omega
          have g4 : (0 : Int) ≤ (q : Int) := by omega
          go_enter Tryz.func178, Tryz.ntmps178
          go_wp2_with fail
          go_ret
          exact ⟨⟨_, rfl⟩, rfl⟩
      · go_enter Tryz.func178, Tryz.ntmps178
        go_wp2_with fail
        go_ret
        exact ⟨⟨_, rfl⟩, rfl⟩
    · have e2 : ¬ (m : Int) + 1 = (ds.length : Int) := by omega
      have e1 : ((m : Int) + 1 == (ds.length : Int)) = false := by simpa using e2
      go_enter Tryz.func178, Tryz.ntmps178
      go_wp2_with fail
      go_ret
      exact ⟨⟨_, rfl⟩, rfl⟩
  · have e2 : ¬ ((48 + d : Nat) : Int) = 53 := by omega
    have e1 : (((48 + d : Nat) : Int) == 53) = false := by simpa using e2
    go_enter Tryz.func178, Tryz.ntmps178
    go_wp2_with fail
    go_ret
    exact ⟨⟨_, rfl⟩, rfl⟩
set_option maxRecDepth 20000 in
set_option maxHeartbeats 2000000 in
theorem rint_any (b : Nat) (ds : List Nat) (dp : Int) (w : World) (hd : DAt w b ds dp) (hg : Dg ds) :
    Calls Tryz.prog 191 #[.pointer (some ⟨b, 0, none⟩)] w fun e w' => AnsU e ∧ w = w' := by
  have hro := fun (n : Int) => round_any b ds dp n w hd hg
  obtain ⟨arr, hD, hL, h8⟩ := hd
  have f0 := hD.nd
  have f1 := hD.dp
  by_cases h20 : 20 < dp
  · go_enter Tryz.func191, Tryz.ntmps191
    go_wp2_with fail
    go_ret
    exact ⟨⟨_, rfl, by omega, by omega⟩, rfl⟩
  have HRO := Lib.hid hro; have HD := Lib.hid hD; have HL := Lib.hid hL; have HG := Lib.hid hg
  clear hro hD hL hg
  go_enter Tryz.func191, Tryz.ntmps191
  go_wp2_with fail
  go_loopw [3, 4] (fun v3 v4 wr => (∃ (i : Nat) (x : Int), v3 = .int .i64 (i : Int) ∧ v4 = .int .u64 x ∧ 0 ≤ x ∧ x < 18446744073709551616 ∧ i ≤ ds.length ∧ i ≤ 20) ∧ w = wr) (fun v3 _ _ => 20 - (intOf v3).toNat)
  case atStart => exact ⟨⟨0, 0, rfl, rfl, by omega, by omega, by omega, by omega⟩, rfl⟩
  case round =>
    obtain ⟨⟨i, x, rfl, rfl, hx0, hx1, hi, hi2⟩, rfl⟩ := hrel
    by_cases hc : (i : Int) < dp
    · by_cases hc2 : i < ds.length
      · have c2 : (i : Int) < (ds.length : Int) := by omega
        have v := HD.out.d i (by omega)
        rw [HL.out i hc2] at v
        have hxq := HG.out ds[i] (List.getElem_mem hc2)
        generalize ds[i] = d at *
        have i1 : (i : Int) < 800 := by omega
        have i0 : (0 : Int) ≤ (i : Int) := by omega
        go_wp2_with fail
        refine ⟨⟨⟨i + 1, _, by go_num, rfl, ?_, ?_, by omega, by omega⟩, by first | rfl | trivial⟩, by simp [intOf]; go_num⟩
        · first | omega | exact (wrap_u64_in _).1
        · first | omega | exact (wrap_u64_in _).2
      · have c2 : ¬ (i : Int) < (ds.length : Int) := by omega
        go_wp2_with fail
        go_loopw [3, 4] (fun v3 v4 wr => (∃ (j : Nat) (y : Int), v3 = .int .i64 (j : Int) ∧ v4 = .int .u64 y ∧ 0 ≤ y ∧ y < 18446744073709551616 ∧ j ≤ 20) ∧ w = wr) (fun v3 _ _ => 20 - (intOf v3).toNat)
        case atStart => exact ⟨⟨i, x, rfl, rfl, hx0, hx1, hi2⟩, rfl⟩
        case round =>
          obtain ⟨⟨j, y, rfl, rfl, hy0, hy1, hj⟩, rfl⟩ := hrel
          by_cases hj2 : (j : Int) < dp
          · go_wp2_with fail
            refine ⟨⟨⟨j + 1, _, by go_num, rfl, ?_, ?_, by omega⟩, by first | rfl | trivial⟩, by simp [intOf]; go_num⟩
            · first | omega | exact (wrap_u64_in _).1
            · first | omega | exact (wrap_u64_in _).2
          · go_wp2_with (first | (go_at_call 178; (refine (HRO.out _).mono ?_); rintro e w1 ⟨⟨t, rfl⟩, rfl⟩) | fail)
            · go_ret
              exact ⟨⟨_, rfl, (wrap_u64_in _).1, (wrap_u64_in _).2⟩, rfl⟩
            · go_ret
              exact ⟨⟨_, rfl, hy0, hy1⟩, rfl⟩
    · go_wp2_with fail
      go_loopw [3, 4] (fun v3 v4 wr => (∃ (j : Nat) (y : Int), v3 = .int .i64 (j : Int) ∧ v4 = .int .u64 y ∧ 0 ≤ y ∧ y < 18446744073709551616 ∧ j ≤ 20) ∧ w = wr) (fun v3 _ _ => 20 - (intOf v3).toNat)
      case atStart => exact ⟨⟨i, x, rfl, rfl, hx0, hx1, hi2⟩, rfl⟩
      case round =>
        obtain ⟨⟨j, y, rfl, rfl, hy0, hy1, hj⟩, rfl⟩ := hrel
        by_cases hj2 : (j : Int) < dp
        · go_wp2_with fail
          refine ⟨⟨⟨j + 1, _, by go_num, rfl, ?_, ?_, by omega⟩, by first | rfl | trivial⟩, by simp [intOf]; go_num⟩
          · first | omega | exact (wrap_u64_in _).1
          · first | omega | exact (wrap_u64_in _).2
        · go_wp2_with (first | (go_at_call 178; (refine (HRO.out _).mono ?_); rintro e w1 ⟨⟨t, rfl⟩, rfl⟩) | fail)
          · go_ret
            exact ⟨⟨_, rfl, (wrap_u64_in _).1, (wrap_u64_in _).2⟩, rfl⟩
          · go_ret
            exact ⟨⟨_, rfl, hy0, hy1⟩, rfl⟩
end Go.Proofs.YtnccpddjdgndcaaGreatDoor.Dc
end

section
/- PLAIN: the two loops of floatBits: how far they run. No program in sight. -/
namespace Go.Proofs.YtnccpddjdgndcaaGreatDoor.Dc
/-- the shift that the table tells -/
def pn (m : Nat) : Nat := if m < 9 then [1, 3, 6, 9, 13, 16, 19, 23, 26][m]! else 27
theorem pn_bds (m : Nat) : 1 ≤ pn m ∧ pn m ≤ 27 := by
  unfold pn
  by_cases h : m < 9
  · rw [if_pos h]
    obtain rfl | rfl | rfl | rfl | rfl | rfl | rfl | rfl | rfl : m = 0 ∨ m = 1 ∨ m = 2 ∨ m = 3 ∨ m = 4 ∨ m = 5 ∨ m = 6 ∨ m = 7 ∨ m = 8 := by omega
    all_goals decide
  · rw [if_neg h]; decide
theorem pn_two (m : Nat) (h1 : 1 ≤ m) : 2 ≤ pn m := by
  unfold pn
  by_cases h : m < 9
  · rw [if_pos h]
    obtain rfl | rfl | rfl | rfl | rfl | rfl | rfl | rfl : m = 1 ∨ m = 2 ∨ m = 3 ∨ m = 4 ∨ m = 5 ∨ m = 6 ∨ m = 7 ∨ m = 8 := by omega
    all_goals decide
  · rw [if_neg h]; decide
theorem ten_two (a b : Nat) (ha : a = 310) (hb : b = 1030) : (10 : Nat) ^ a < 2 ^ b := by subst ha; subst hb; decide +kernel
theorem ten_two2 (a b : Nat) (ha : a = 331) (hb : b = 1100) : (10 : Nat) ^ a < 2 ^ b := by subst ha; subst hb; decide +kernel
/-- what the first loop keeps -/
structure F1 (s : DS) (e : Int) (c : Nat) : Prop where
  ok : Ok s
  lo : -330 ≤ s.dp
  hi : s.dp ≤ 310
  e0 : 0 ≤ e
  e1 : e ≤ 27 * (c : Int)
  fl : ∀ m, m = 310 → 2 ^ c * fl s.ds s.dp ≤ 10 ^ m
  cc : c ≤ 1030
theorem F1.start {s : DS} (h : Ok s) (lo : -330 ≤ s.dp) (hi : s.dp ≤ 310) : F1 s 0 0 :=
  ⟨h, lo, hi, by omega, by omega, fun m hm => by rw [Nat.pow_zero, Nat.one_mul]; exact fl_le s h m (by omega), by omega⟩
theorem F1.step {s : DS} {e : Int} {c : Nat} (h : F1 s e c) (hp : 0 < s.dp) :
    F1 (right (pn s.dp.toNat) s) (e + (pn s.dp.toNat : Int)) (c + 1) ∧ Dc.fl (right (pn s.dp.toNat) s).ds (right (pn s.dp.toNat) s).dp < Dc.fl s.ds s.dp := by
  obtain ⟨k1, k2⟩ := pn_bds s.dp.toNat
  generalize pn s.dp.toNat = k at *
  have a1 := right_half k s h.ok k1 hp
  have a2 := right_dp k s h.ok k1 (by omega)
  have a3 := fl_pos h.ok hp
  have h1 := h.lo
  have h2 := h.hi
  have h3 := h.e0
  have h4 := h.e1
  have hc : c + 1 ≤ 1030 := by
    refine Nat.lt_of_not_le fun hge => ?_
    obtain ⟨m, hm⟩ : ∃ m : Nat, m = 310 := ⟨_, rfl⟩
    obtain ⟨q, hq⟩ : ∃ q : Nat, q = 1030 := ⟨_, rfl⟩
    have b1 := h.fl m hm
    have b2 : 2 ^ c * 1 ≤ 2 ^ c * Dc.fl s.ds s.dp := Nat.mul_le_mul_left _ a3
    have b3 := ten_two m q hm hq
    have b4 : 2 ^ q ≤ 2 ^ c := Nat.pow_le_pow_right (by decide) (by omega)
    rw [Nat.mul_one] at b2
    exact Nat.lt_irrefl _ (Nat.lt_of_lt_of_le b3 (Nat.le_trans b4 (Nat.le_trans b2 b1)))
  refine ⟨⟨right_ok k s h.ok, by omega, by omega, by omega, by push_cast; omega, fun m hm => ?_, hc⟩, by omega⟩
  refine Nat.le_trans ?_ (h.fl m hm)
  rw [Nat.pow_succ, Nat.mul_assoc]
  exact Nat.mul_le_mul_left _ a1
/-- what the second loop keeps -/
structure F2 (e0 : Int) (s : DS) (e : Int) (c j : Nat) : Prop where
  ok : Ok s
  lo : -330 ≤ s.dp
  hi : s.dp ≤ 19
  e1 : e0 - 27 * (c : Int) - (j : Int) ≤ e
  e2 : e ≤ e0
  neg : s.dp < 0 → j = 0 ∧ ∀ m, m = 331 → 2 ^ c * iv s.ds s.dp ≤ 10 ^ m
  pos : 0 ≤ s.dp → j + iv s.ds s.dp ≤ 10
  cc : c ≤ 1101
theorem F2.start {s : DS} {e : Int} (h : Ok s) (lo : -330 ≤ s.dp) (hi : s.dp ≤ 0) : F2 e s e 0 0 := by
  refine ⟨h, lo, by omega, by omega, Int.le_refl _, fun _ => ⟨rfl, fun m hm => ?_⟩, fun hp => ?_, by omega⟩
  · obtain ⟨q, hq⟩ : ∃ q : Nat, q + 1 = m := ⟨m - 1, by omega⟩
    rw [Nat.pow_zero, Nat.one_mul, ← hq]
    exact iv_le s h q (by omega)
  · have := iv_le s h 0 (by omega)
    simpa using this
theorem F2.step {e0 : Int} {s : DS} {e : Int} {c j : Nat} (h : F2 e0 s e c j) (hh : Half s) :
    (∃ c2 j2, F2 e0 (left (pn (-s.dp).toNat) s) (e - (pn (-s.dp).toNat : Int)) c2 j2) ∧ iv (left (pn (-s.dp).toNat) s).ds (left (pn (-s.dp).toNat) s).dp < iv s.ds s.dp := by
  obtain ⟨k1, k2⟩ := pn_bds (-s.dp).toNat
  have kt := pn_two (-s.dp).toNat
  have k0 : s.dp = 0 → pn (-s.dp).toNat = 1 := fun g => by rw [g]; rfl
  generalize pn (-s.dp).toNat = k at *
  have a1 := left_less k k1 (by omega) s h.ok hh
  have a2 := left_dp k s h.ok (by omega)
  have a3 := iv_two h.ok hh
  have ho := left_ok k (by omega) s h.ok
  have h1 := h.lo
  have h2 := h.hi
  have h3 := h.e1
  have h4 := h.e2
  have h5 := h.cc
  refine ⟨?_, a1⟩
  by_cases hn : s.dp < 0
  · obtain ⟨j0, hm⟩ := h.neg hn
    have a4 := left_half k (kt (by omega)) (by omega) s h.ok hh
    have hc : c + 1 ≤ 1101 := by
      refine Nat.lt_of_not_le fun hge => ?_
      obtain ⟨m, hm3⟩ : ∃ m : Nat, m = 331 := ⟨_, rfl⟩
      obtain ⟨q, hq⟩ : ∃ q : Nat, q = 1100 := ⟨_, rfl⟩
      have b1 := hm m hm3
      have b2 : 2 ^ c * 1 ≤ 2 ^ c * iv s.ds s.dp := Nat.mul_le_mul_left _ (by omega)
      have b3 := ten_two2 m q hm3 hq
      have b4 : 2 ^ q ≤ 2 ^ c := Nat.pow_le_pow_right (by decide) (by omega)
      rw [Nat.mul_one] at b2
      exact Nat.lt_irrefl _ (Nat.lt_of_lt_of_le b3 (Nat.le_trans b4 (Nat.le_trans b2 b1)))
    refine ⟨c + 1, 0, ho, by omega, by omega, by push_cast; omega, by omega, fun hn2 => ⟨rfl, fun m hm2 => ?_⟩, fun hp => ?_, hc⟩
    · refine Nat.le_trans ?_ (hm m hm2)
      rw [Nat.pow_succ, Nat.mul_assoc]
      exact Nat.mul_le_mul_left _ a4
    · have := iv_le _ ho 0 (by omega)
      simpa using this
  · have hz : s.dp = 0 := by rcases hh with g | ⟨g, _⟩ <;> omega
    have hj := h.pos (by omega)
    have hk1 := k0 hz
    refine ⟨c, j + 1, ho, by omega, by omega, by push_cast; omega, by omega, fun hn2 => by omega, fun hp => by omega, h5⟩
theorem F2.bds {e0 : Int} {s : DS} {e : Int} {c j : Nat} (h : F2 e0 s e c j) : e0 - 29800 ≤ e ∧ e ≤ e0 ∧ -330 ≤ s.dp ∧ s.dp ≤ 19 := by
  have h1 := h.e1
  have h2 := h.e2
  have h3 := h.cc
  have h4 : j ≤ 10 := by
    by_cases g : s.dp < 0
    · have := (h.neg g).1; omega
    · have := h.pos (by omega); omega
  exact ⟨by omega, h2, h.lo, h.hi⟩
theorem F1.bds {s : DS} {e : Int} {c : Nat} (h : F1 s e c) : 0 ≤ e ∧ e ≤ 27810 ∧ -330 ≤ s.dp ∧ s.dp ≤ 310 := by
  have h1 := h.e1
  have h2 := h.cc
  exact ⟨h.e0, by omega, h.lo, h.hi⟩
end Go.Proofs.YtnccpddjdgndcaaGreatDoor.Dc
end

section
/- A SCOPE WHOSE JUMPS LEAD FORWARD: each goto goes on at its label, from where no further goto is taken. -/
namespace Go
/-- As Q; a goto goes on behind its label. -/
def Exit.fwd (P : Program) (c : Code) (Q : Exit → Act → World → Prop) : Exit → Act → World → Prop
  | .goto l, a, w => ∃ rest, findLabel c l = some rest ∧ rest.wp P (Exit.noGoto Q) a w
  | e, a, w => Q e a w
theorem wp_scope_fwd {P : Program} {a : Act} {w : World} {Q : Exit → Act → World → Prop} {c : Code} (h : c.wp P (Exit.fwd P c Q) a w) : (Code.scope c).wp P Q a w := by
  intro b k cs
  obtain ⟨e, a₁, w₁, hq, harr⟩ := h b (.inScope c :: k) cs
  cases e with
  | normal => exact ⟨.normal, a₁, w₁, hq, .head step_scope (Steps.trans harr (.one step_inScope))⟩
  | exit id => exact ⟨.exit id, a₁, w₁, hq, fun k' hk => .head step_scope (harr k' (by simp [exitTo, hk]))⟩
  | goto l =>
    obtain ⟨rest, hf, hr⟩ := hq
    have hg : gotoIn l (.inScope c :: k) = some (.code rest :: .inScope c :: k) := by simp [gotoIn, hf]
    obtain ⟨e₂, a₂, w₂, hq₂, harr₂⟩ := hr b (.inScope c :: k) cs
    have first := harr _ hg
    cases e₂ with
    | normal => exact ⟨.normal, a₂, w₂, hq₂, .head step_scope (Steps.trans first (Steps.trans harr₂ (.one step_inScope)))⟩
    | exit id => exact ⟨.exit id, a₂, w₂, hq₂, fun k' hk => .head step_scope (Steps.trans first (harr₂ k' (by simp [exitTo, hk])))⟩
    | goto l2 => exact hq₂.elim
    | ret => exact ⟨_, a₂, w₂, hq₂, .of_steps (.head step_scope first) harr₂⟩
    | panic ch => exact ⟨_, a₂, w₂, hq₂, .of_steps (.head step_scope first) harr₂⟩
    | outgrown => exact ⟨_, a₂, w₂, hq₂, .of_steps (.head step_scope first) harr₂⟩
  | ret => exact ⟨_, a₁, w₁, hq, .of_steps (.one step_scope) harr⟩
  | panic ch => exact ⟨_, a₁, w₁, hq, .of_steps (.one step_scope) harr⟩
  | outgrown => exact ⟨_, a₁, w₁, hq, .of_steps (.one step_scope) harr⟩
end Go
end

section
/- THE WALK OF (*decimal).floatBits: it answers, whatever the decimal be. -/
namespace Go.Proofs.YtnccpddjdgndcaaGreatDoor.Dc
open Go.RowKit
theorem DK.keep {b B : Nat} {w w2 : World} (h : DK b w w2) (hB : B ≤ b) (hs : B ≤ w.heap.size) {p : Addr} {v : Value} (hp : p.block < B) (hc : w.cell? p = some v) : w2.cell? p = some v := (h.cell (by omega) (by omega)).trans hc
/-- the tables that the slow road reads, all below B -/
structure TbW (w : World) (B R o c : Nat) : Prop where
  i0 : w.cell? ⟨10, 0, none⟩ = some (.int .u64 52)
  i1 : w.cell? ⟨10, 1, none⟩ = some (.int .u64 11)
  i2 : w.cell? ⟨10, 2, none⟩ = some (.int .i64 (-1023))
  tb : w.cell? ⟨12, 0, none⟩ = some (.slice (some ⟨R, o, none⟩) 9 c)
  row : ∀ k : Nat, k < 9 → w.cell? ⟨R, o + k, none⟩ = some (.int .i64 ((pn k : Nat) : Int))
  lc : LcT w
  b1 : 10 < B
  b2 : 12 < B
  b3 : R < B
  b4 : ∀ R2 o2 c2 : Nat, w.cell? ⟨17, 0, none⟩ = some (.slice (some ⟨R2, o2, none⟩) 61 c2) → R2 < B ∧ 17 < B
theorem TbW.dk {w w2 : World} {b B R o c : Nat} (h : TbW w B R o c) (hd : DK b w w2) (hB : B ≤ b) (hs : B ≤ w.heap.size) : TbW w2 B R o c := by
  obtain ⟨R2, o2, c2, h1, h2⟩ := h.lc
  obtain ⟨k1, k2⟩ := h.b4 _ _ _ h1
  have e1 := hd.keep hB hs (p := ⟨17, 0, none⟩) k2 h1
  refine ⟨hd.keep hB hs h.b1 h.i0, hd.keep hB hs h.b1 h.i1, hd.keep hB hs h.b1 h.i2, hd.keep hB hs h.b2 h.tb, fun k hk => hd.keep hB hs h.b3 (h.row k hk), ⟨R2, o2, c2, e1, fun k a b => ⟨hd.keep hB hs k1 (h2 k a b).1, hd.keep hB hs k1 (h2 k a b).2⟩⟩, h.b1, h.b2, h.b3, fun R3 o3 c3 h3 => ?_⟩
  rw [e1] at h3
  cases h3
  exact ⟨k1, k2⟩
theorem TbW.drewN {w : World} {B R o c : Nat} (h : TbW w B R o c) (n : Nat) : TbW (w.drewN n) B R o c :=
  ⟨by simpa using h.i0, by simpa using h.i1, by simpa using h.i2, by simpa using h.tb, fun k hk => by simpa using h.row k hk, h.lc.drewN n, h.b1, h.b2, h.b3, fun R2 o2 c2 h2 => h.b4 R2 o2 c2 (by simpa using h2)⟩
theorem or_u64_bd (a b : Int) : 0 ≤ bits .or .u64 a b ∧ bits .or .u64 a b < 18446744073709551616 := wrap_u64_in _
def AnsF (e : Ending) : Prop := ∃ (u : Int) (ov : Bool), e = .returned (.tuple #[.int .u64 u, .bool ov]) ∧ 0 ≤ u ∧ u < 18446744073709551616
theorem two_drew (w : World) (a b : Nat) (bk : Nat) : DK bk w ((w.drewN a).drewN b) := (dk_drewN bk a w).trans (dk_drewN bk b _)
theorem drews (w : World) (bk : Nat) : ∀ l : List Nat, DK bk w (l.foldl (fun w n => w.drewN n) w) := fun l => by
  induction l generalizing w with
  | nil => exact DK.refl _ _
  | cons n l ih => exact (dk_drewN bk n w).trans (ih _)
set_option maxRecDepth 20000 in
set_option maxHeartbeats 4000000 in
theorem fb_none (b : Nat) (dp : Int) (w : World) (hd : DAt w b [] dp) (B R o c : Nat) (hF : TbW w B R o c) :
    Calls Tryz.prog 155 #[.pointer (some ⟨b, 0, none⟩), (.pointer (some ⟨10, 0, none⟩))] w fun e w' => AnsF e ∧ DK b w w' := by
  obtain ⟨arr, hD, _, _⟩ := hd
  have y8 : w.cell? ⟨b, 800, none⟩ = some (.int .i64 0) := hD.nd
  obtain ⟨ng, y2⟩ := hD.ng
  have z0 := hF.i0; have z1 := hF.i1; have z2 := hF.i2
  clear hD hF
  cases ng
  · go_enter Tryz.func155, Tryz.ntmps155
    go_wp2
    apply wp_scope_fwd
    go_hide hQ
    go_wp2
    go_step3
    subst hQ
    refine ⟨_, rfl, ?_⟩
    go_wp2
    go_quiet (fail)
    go_wp2
    rw [Exit.noGoto_ret]
    go_returns
    exact ⟨⟨_, _, rfl, (or_u64_bd _ _).1, (or_u64_bd _ _).2⟩, dk_drewN _ _ _⟩
  · go_enter Tryz.func155, Tryz.ntmps155
    go_wp2
    apply wp_scope_fwd
    go_hide hQ
    go_wp2
    go_step3
    subst hQ
    refine ⟨_, rfl, ?_⟩
    go_wp2
    go_quiet (fail)
    go_wp2
    go_quiet (fail)
    go_wp2
    rw [Exit.noGoto_ret]
    go_returns
    exact ⟨⟨_, _, rfl, (or_u64_bd _ _).1, (or_u64_bd _ _).2⟩, two_drew _ _ _ _⟩
set_option maxRecDepth 20000 in
set_option maxHeartbeats 4000000 in
theorem fb_far (b : Nat) (s : DS) (w : World) (hd : DAt w b s.ds s.dp) (hok : Ok s) (B R o c : Nat) (hF : TbW w B R o c) (hf : 310 < s.dp ∨ s.dp < -330) :
    Calls Tryz.prog 155 #[.pointer (some ⟨b, 0, none⟩), (.pointer (some ⟨10, 0, none⟩))] w fun e w' => AnsF e ∧ DK b w w' := by
  obtain ⟨arr, hD, _, _⟩ := hd
  have y8 := hD.nd
  have y9 := hD.dp
  obtain ⟨ng, y2⟩ := hD.ng
  have z0 := hF.i0; have z1 := hF.i1; have z2 := hF.i2
  have hl1 : 1 ≤ s.ds.length := by obtain ⟨d, t, e, _⟩ := hok.hd; rw [e]; simp
  have n1 : ((s.ds.length : Int) == 0) = false := beq_eq_false_iff_ne.2 (by omega)
  clear hD hF hok
  rcases hf with hf | hf
  · cases ng
    · go_enter Tryz.func155, Tryz.ntmps155
      go_wp2
      apply wp_scope_fwd
      go_hide hQ
      go_wp2
      go_step3
      subst hQ
      refine ⟨_, rfl, ?_⟩
      go_wp2
      go_quiet (fail)
      go_wp2
      go_step3
      go_wp2
      go_quiet (fail)
      go_wp2
      rw [Exit.noGoto_ret]
      go_returns
      exact ⟨⟨_, _, rfl, (or_u64_bd _ _).1, (or_u64_bd _ _).2⟩, (by first | exact DK.refl _ _ | exact dk_drewN _ _ _ | exact two_drew _ _ _ _ | exact drews _ _ [_, _, _] | exact drews _ _ [_, _, _, _])⟩
    · go_enter Tryz.func155, Tryz.ntmps155
      go_wp2
      apply wp_scope_fwd
      go_hide hQ
      go_wp2
      go_step3
      subst hQ
      refine ⟨_, rfl, ?_⟩
      go_wp2
      go_quiet (fail)
      go_wp2
      go_step3
      go_wp2
      go_quiet (fail)
      go_wp2
      go_quiet (fail)
      go_wp2
      rw [Exit.noGoto_ret]
      go_returns
      exact ⟨⟨_, _, rfl, (or_u64_bd _ _).1, (or_u64_bd _ _).2⟩, (by first | exact DK.refl _ _ | exact dk_drewN _ _ _ | exact two_drew _ _ _ _ | exact drews _ _ [_, _, _] | exact drews _ _ [_, _, _, _])⟩
  · have m1 : ¬ (310 : Int) < s.dp := by omega
    cases ng
    · go_enter Tryz.func155, Tryz.ntmps155
      go_wp2
      apply wp_scope_fwd
      go_hide hQ
      go_wp2
      go_step3
      subst hQ
      refine ⟨_, rfl, ?_⟩
      go_wp2
      go_quiet (fail)
      go_wp2
      rw [Exit.noGoto_ret]
      go_returns
      exact ⟨⟨_, _, rfl, (or_u64_bd _ _).1, (or_u64_bd _ _).2⟩, (by first | exact DK.refl _ _ | exact dk_drewN _ _ _ | exact two_drew _ _ _ _ | exact drews _ _ [_, _, _] | exact drews _ _ [_, _, _, _])⟩
    · go_enter Tryz.func155, Tryz.ntmps155
      go_wp2
      apply wp_scope_fwd
      go_hide hQ
      go_wp2
      go_step3
      subst hQ
      refine ⟨_, rfl, ?_⟩
      go_wp2
      go_quiet (fail)
      go_wp2
      go_quiet (fail)
      go_wp2
      rw [Exit.noGoto_ret]
      go_returns
      exact ⟨⟨_, _, rfl, (or_u64_bd _ _).1, (or_u64_bd _ _).2⟩, (by first | exact DK.refl _ _ | exact dk_drewN _ _ _ | exact two_drew _ _ _ _ | exact drews _ _ [_, _, _] | exact drews _ _ [_, _, _, _])⟩
end Go.Proofs.YtnccpddjdgndcaaGreatDoor.Dc
end

section
/- THE WALK OF strconv.atofHex: it answers, whatever it be. -/
namespace Go.Proofs.YtnccpddjdgndcaaGreatDoor.Pf
open Go.RowKit Go.Proofs.YtnccpddjdgndcaaGreatDoor.Fmt
/-- what is the matter with a number: nothing, out of range, none -/
def ErrQ (v : Value) : Prop := v = .nilIface ∨ v = .iface 106 (.int .i64 1) ∨ v = .iface 106 (.int .i64 2)
theorem half_lt (m : Nat) (h : 2 ≤ m) : (m / 2 ||| m % 2) < m := by
  rcases Nat.mod_two_eq_zero_or_one m with o | o
  · rw [o, Nat.or_zero]; omega
  · rw [o, Nt.or1]; omega
theorem half_eq (m : Nat) (hm : m < 18446744073709551616) : bits .or .u64 ((m : Int) / 2) (bits .and .u64 (m : Int) 1) = ((m / 2 ||| m % 2 : Nat) : Int) := by
  rw [and1u m hm, show (m : Int) / 2 = ((m / 2 : Nat) : Int) by omega]
  exact or_u (m / 2) (m % 2) (by omega) (by omega)
def U64 (v : Value) : Prop := ∃ m : Nat, v = .int .u64 (m : Int) ∧ m < 18446744073709551616
theorem u64_of (x : Int) (h0 : 0 ≤ x) (h1 : x < 18446744073709551616) : U64 (.int .u64 x) := ⟨x.toNat, by rw [Int.toNat_of_nonneg h0], by omega⟩
theorem u64_wrap (x : Int) : U64 (.int .u64 (IntKind.u64.wrap x)) := u64_of _ (Dc.wrap_u64_in x).1 (Dc.wrap_u64_in x).2
theorem u64_bits (a b : Int) : U64 (.int .u64 (bits .or .u64 a b)) := u64_of _ (Dc.or_u64_bd a b).1 (Dc.or_u64_bd a b).2
def AnsX (e : Ending) : Prop := ∃ (y : Nat) (v : Value), e = .returned (.tuple #[.float .f64 y, v]) ∧ y < 18446744073709551616 ∧ ErrQ v
/-- two variables of the program's own lie as they were laid -/
def GlobT (W : World) : Prop := (∃ c t, W.heap[10]? = some (.cells c t (0, 0))) ∧ ∃ c t, W.heap[9]? = some (.cells c t (0, 0))
theorem GlobT.below {W W2 : World} {B : Nat} (h : GlobT W) (hb : Below B W W2) (hB : 10 < B ∧ 9 < B) : GlobT W2 := by
  obtain ⟨⟨c, t, h1⟩, c2, t2, h2⟩ := h
  exact ⟨⟨c, t, (hb.block _ hB.1).trans h1⟩, c2, t2, (hb.block _ hB.2).trans h2⟩
theorem info_fi : (Tryz.prog.info? 178).map (fun i => i.size) = some 3 := by kernel_rfl
theorem ptr_ne (W : World) (h : GlobT W) : (binOp .eql 176 (.pointer (some ⟨10, 0, none⟩)) (.pointer (some ⟨9, 0, none⟩))).run Tryz.prog W = .ok (.bool false) W := by
  obtain ⟨⟨c, t, h1⟩, c2, t2, h2⟩ := h
  obtain ⟨j, hj, hs⟩ := Option.map_eq_some_iff.1 info_fi
  exact run_eql_ptr_other W Tryz.underlying176 hj (by omega) (by decide) h1 h2
set_option maxRecDepth 20000 in
set_option maxHeartbeats 8000000 in
theorem hex_any (s : ByteArray) (m : Nat) (x : Int) (ng tr : Bool) (hm : m < 18446744073709551616) (w : World) (z0 : w.cell? ⟨10, 0, none⟩ = some (.int .u64 52)) (z1 : w.cell? ⟨10, 1, none⟩ = some (.int .u64 11)) (z2 : w.cell? ⟨10, 2, none⟩ = some (.int .i64 (-1023))) (hG : GlobT w) :
    Calls Tryz.prog 149 #[.string s, (.pointer (some ⟨10, 0, none⟩)), .int .u64 (m : Int), .int .i64 x, .bool ng, .bool tr] w fun e w' => AnsX e ∧ ∃ n, w' = w.drewN n := by
  go_enter Tryz.func149, Tryz.ntmps149
  go_wp2_with fail
  go_quiet (fail)
  go_upto_block 0 with fail
  go_cut [2, 3] from 42 to 57 (fun v2 v3 wx => (∃ (m2 : Nat) (e2 : Int), v2 = .int .u64 (m2 : Int) ∧ v3 = .int .i64 e2 ∧ m2 < 18446744073709551616) ∧ w.drewN nq = wx)
  case first => as_aux_lemma =>
    go_wp2
    go_loopw [2, 3] (fun v2 v3 wx => (∃ (m2 : Nat) (e2 : Int), v2 = .int .u64 (m2 : Int) ∧ v3 = .int .i64 e2 ∧ m2 < 18446744073709551616) ∧ w.drewN nq = wx) (fun v2 _ _ => 18014398509481984 - (intOf v2).toNat)
    case atStart => exact ⟨⟨m, _, rfl, rfl, hm⟩, rfl⟩
    case round =>
      obtain ⟨⟨m2, e2, rfl, rfl, hm2⟩, rfl⟩ := hrel
      by_cases h0 : m2 = 0
      · subst h0
        go_wp2_with fail
        go_meet
        exact ⟨⟨0, e2, rfl, rfl, hm2⟩, rfl⟩
      · have b0 : ((m2 : Int) != 0) = true := by rw [bne_iff_ne]; omega
        by_cases h1 : m2 < 18014398509481984
        · have b1 : ((m2 : Int) / 18014398509481984 == 0) = true := by
            have : (m2 : Int) / 18014398509481984 = 0 := by omega
            rw [this]; rfl
          go_wp2_with fail
          exact ⟨⟨⟨m2 * 2, _, by go_num, rfl, by omega⟩, by first | rfl | trivial⟩, by simp [intOf]; go_num⟩
        · have b1 : ((m2 : Int) / 18014398509481984 == 0) = false := beq_eq_false_iff_ne.2 (by omega)
          go_wp2_with fail
          go_meet
          exact ⟨⟨m2, e2, rfl, rfl, hm2⟩, rfl⟩
  case rest => as_aux_lemma =>
    obtain ⟨⟨m2, e2, rfl, rfl, hm2⟩, rfl⟩ := hcut
    clear hm
    go_upto_if 58 with fail
    go_cut [2] from 58 to 60 (fun v2 wx => (∃ (m3 : Nat), v2 = .int .u64 (m3 : Int) ∧ m3 < 18446744073709551616) ∧ w.drewN nq = wx)
    case first => as_aux_lemma =>
      cases tr
      · go_wp2_with fail
        go_meet
        exact ⟨⟨m2, rfl, hm2⟩, rfl⟩
      · go_wp2_with fail
        go_meet
        obtain ⟨m3, h1, h2⟩ := u64_bits (m2 : Int) 1
        exact ⟨⟨m3, h1, h2⟩, rfl⟩
    case rest => as_aux_lemma =>
      obtain ⟨⟨m3, rfl, hm3⟩, rfl⟩ := hcut
      clear hm2
      go_upto_block 2 with fail
      go_cut [2, 3] from 61 to 76 (fun v2 v3 wx => (∃ (m2 : Nat) (e2 : Int), v2 = .int .u64 (m2 : Int) ∧ v3 = .int .i64 e2 ∧ m2 < 18446744073709551616) ∧ w.drewN nq = wx)
      case first => as_aux_lemma =>
        go_wp2
        go_loopw [2, 3] (fun v2 v3 wx => (∃ (m2 : Nat) (e2 : Int), v2 = .int .u64 (m2 : Int) ∧ v3 = .int .i64 e2 ∧ m2 < 18446744073709551616) ∧ w.drewN nq = wx) (fun v2 _ _ => (intOf v2).toNat)
        case atStart => exact ⟨⟨m3, _, rfl, rfl, hm3⟩, rfl⟩
        case round =>
          obtain ⟨⟨m4, e4, rfl, rfl, hm4⟩, rfl⟩ := hrel
          by_cases h1 : 36028797018963968 ≤ m4
          · have b1 : ((m4 : Int) / 36028797018963968 != 0) = true := by rw [bne_iff_ne]; omega
            have he := half_eq m4 hm4
            have hl := half_lt m4 (by omega)
            generalize (m4 / 2 ||| m4 % 2) = q at *
            have HE := Lib.hid he
            clear he
            go_wp2_with fail
            refine ⟨⟨⟨q, _, by rw [HE.out], rfl, by omega⟩, by first | rfl | trivial⟩, ?_⟩
            rw [HE.out]
            simp [intOf]; exact hl
          · have b1 : ((m4 : Int) / 36028797018963968 != 0) = false := by
              have : (m4 : Int) / 36028797018963968 = 0 := by omega
              rw [this]; rfl
            go_wp2_with fail
            go_meet
            exact ⟨⟨m4, e4, rfl, rfl, hm4⟩, rfl⟩
      case rest => as_aux_lemma =>
        obtain ⟨⟨m4, e4, rfl, rfl, hm4⟩, rfl⟩ := hcut
        clear hm3
        go_upto_block 4 with fail
        go_cut [2, 3] from 77 to 91 (fun v2 v3 wx => (∃ (m2 : Nat) (e2 : Int), v2 = .int .u64 (m2 : Int) ∧ v3 = .int .i64 e2 ∧ m2 < 18446744073709551616) ∧ w.drewN nq = wx)
        case first => as_aux_lemma =>
          go_wp2
          go_loopw [2, 3] (fun v2 v3 wx => (∃ (m2 : Nat) (e2 : Int), v2 = .int .u64 (m2 : Int) ∧ v3 = .int .i64 e2 ∧ m2 < 18446744073709551616) ∧ w.drewN nq = wx) (fun v2 _ _ => (intOf v2).toNat)
          case atStart => exact ⟨⟨m4, _, rfl, rfl, hm4⟩, rfl⟩
          case round =>
            obtain ⟨⟨m5, e5, rfl, rfl, hm5⟩, rfl⟩ := hrel
            by_cases h1 : 1 < m5
            · have b1 : (1 : Int) < (m5 : Int) := by omega
              by_cases h2 : e5 < -1024
              · have he := half_eq m5 hm5
                have hl := half_lt m5 (by omega)
                generalize (m5 / 2 ||| m5 % 2) = q at *
                have HE := Lib.hid he
                clear he
                go_wp2_with fail
                refine ⟨⟨⟨q, _, by rw [HE.out], rfl, by omega⟩, by first | rfl | trivial⟩, ?_⟩
                rw [HE.out]
                simp [intOf]; exact hl
              · go_wp2_with fail
                go_meet
                exact ⟨⟨m5, e5, rfl, rfl, hm5⟩, rfl⟩
            · have b1 : ¬ (1 : Int) < (m5 : Int) := by omega
              go_wp2_with fail
              go_meet
              exact ⟨⟨m5, e5, rfl, rfl, hm5⟩, rfl⟩
        case rest => as_aux_lemma =>
          obtain ⟨⟨m5, e5, rfl, rfl, hm5⟩, rfl⟩ := hcut
          clear hm4
          go_upto_if 103 with fail
          go_cut [2, 3] from 102 to 117 (fun v2 v3 wx => U64 v2 ∧ (∃ e : Int, v3 = .int .i64 e) ∧ w.drewN nq = wx)
          case first => as_aux_lemma =>
            go_wp2_with fail
            all_goals
              go_meet
              refine ⟨?_, ⟨_, rfl⟩, rfl⟩
              first | exact u64_wrap _ | exact u64_of _ (by omega) (by omega)
          case rest => as_aux_lemma =>
            obtain ⟨⟨m6, rfl, hm6⟩, ⟨e6, rfl⟩, rfl⟩ := hcut
            clear hm5
            go_upto_if 124 with fail
            go_cut [3] from 118 to 128 (fun v3 wx => (∃ e : Int, v3 = .int .i64 e) ∧ w.drewN nq = wx)
            case first => as_aux_lemma =>
              go_wp2_with fail
              all_goals
                go_meet
                exact ⟨⟨_, rfl⟩, rfl⟩
            case rest => as_aux_lemma =>
              obtain ⟨⟨e7, rfl⟩, rfl⟩ := hcut
              go_upto_if 131 with fail
              go_cut [2, 3, 17] from 129 to 139 (fun v2 v3 v17 wx => U64 v2 ∧ (∃ e : Int, v3 = .int .i64 e) ∧ ErrQ v17 ∧ w.drewN nq = wx)
              case first => as_aux_lemma =>
                by_cases h1 : 1023 < e7
                · go_wp2_with fail
                  go_meet
                  exact ⟨u64_of _ (by omega) (by omega), ⟨_, rfl⟩, .inr (.inl rfl), rfl⟩
                · go_wp2_with fail
                  go_meet
                  exact ⟨⟨m6, rfl, hm6⟩, ⟨_, rfl⟩, .inl rfl, rfl⟩
              case rest => as_aux_lemma =>
                obtain ⟨⟨m8, rfl, hm8⟩, ⟨e8, rfl⟩, he, rfl⟩ := hcut
                have hpn : ∀ n, _ := fun n => ptr_ne (w.drewN n) hG
                have hpn2 : ∀ n m, _ := fun n m => ptr_ne ((w.drewN n).drewN m) hG
                cases ng
                · go_wp2_with (first | (simp only [sfrom_call]) | fail)
                  go_quiet (fail)
                  go_wp2_with (first | (simp only [sfrom_call]) | (simp only [hpn, hpn2]) | fail)
                  go_returns
                  exact ⟨⟨_, _, rfl, by have := (Dc.or_u64_bd (bits .and .u64 (m8 : Int) 4503599627370495) (IntKind.u64.wrap (IntKind.u64.wrap (bits .and .i64 (wrap64 (e8 + 1023)) 2047) * 4503599627370496))); omega, he⟩, _, rfl⟩
                · go_wp2_with (first | (simp only [sfrom_call]) | fail)
                  go_quiet (fail)
                  go_wp2_with (first | (simp only [sfrom_call]) | (simp only [hpn, hpn2]) | fail)
                  go_quiet (fail)
                  go_wp2_with (first | (simp only [sfrom_call]) | (simp only [hpn, hpn2]) | fail)
                  go_returns
                  exact ⟨⟨_, _, rfl, by have := (Dc.or_u64_bd (bits .or .u64 (bits .and .u64 (m8 : Int) 4503599627370495) (IntKind.u64.wrap (IntKind.u64.wrap (bits .and .i64 (wrap64 (e8 + 1023)) 2047) * 4503599627370496))) 9223372036854775808); omega, he⟩, _, rfl⟩
end Go.Proofs.YtnccpddjdgndcaaGreatDoor.Pf
end

section
/- THE WALK OF (*decimal).set: it answers, whatever the text be, and leaves a decimal. -/
namespace Go.Proofs.YtnccpddjdgndcaaGreatDoor.Dc
open Go.RowKit
theorem DAt.setDp {W : World} {b : Nat} {ds : List Nat} {dp : Int} (h : DAt W b ds dp) (n : Int) : DAt (W.setCell ⟨b, 801, none⟩ (.int .i64 n)) b ds n := by
  obtain ⟨arr, hD, hL, h8⟩ := h
  exact ⟨arr, hD.setDp n, hL, h8⟩
theorem DAt.setNg {W : World} {b : Nat} {ds : List Nat} {dp : Int} (h : DAt W b ds dp) (z : Bool) : DAt (W.setCell ⟨b, 802, none⟩ (.bool z)) b ds dp := by
  obtain ⟨arr, hD, hL, h8⟩ := h
  exact ⟨arr, hD.setNg z, hL, h8⟩
theorem DAt.setTr {W : World} {b : Nat} {ds : List Nat} {dp : Int} (h : DAt W b ds dp) (z : Bool) : DAt (W.setCell ⟨b, 803, none⟩ (.bool z)) b ds dp := by
  obtain ⟨arr, hD, hL, h8⟩ := h
  exact ⟨arr, hD.setTr z, hL, h8⟩
theorem DArr.drew {W : World} {b : Nat} {arr : Nat → Nat} {nd dp : Int} (h : DArr W b arr nd dp) : DArr W.drew b arr nd dp :=
  ⟨fun i hi => by simpa using h.d i hi, by simpa using h.nd, by simpa using h.dp, by simpa using h.ng, by simpa using h.tr, fun o => by simpa using h.fz o⟩
theorem DAt.push {W : World} {b : Nat} {ds : List Nat} {dp : Int} (h : DAt W b ds dp) (c : Nat) (hl : ds.length < 800) (v : Int) (hv : v = 48 + (c : Int)) (n : Int) (hn : n = (ds.length : Int) + 1) :
    DAt ((W.setCell ⟨b, ds.length, none⟩ (.int .u8 v)).drew.setCell ⟨b, 800, none⟩ (.int .i64 n)) b (ds ++ [c]) dp := by
  obtain ⟨arr, hD, hL, h8⟩ := h
  have h1 := hD.setD ds.length (48 + c) hl
  have e : (((48 + c : Nat)) : Int) = v := by omega
  rw [e] at h1
  have h2 := h1.drew.setNd n
  refine ⟨upd arr ds.length (48 + c), ?_, fun i hi => ?_, by rw [List.length_append]; simp; omega⟩
  · have e2 : (((ds ++ [c]).length : Nat) : Int) = n := by rw [List.length_append]; simp; omega
    rw [e2]; exact h2
  · unfold upd
    rw [List.length_append, List.length_singleton] at hi
    by_cases g : i = ds.length
    · subst g
      rw [if_pos rfl, List.getElem_append_right (Nat.le_refl _)]
      simp
    · rw [if_neg g, List.getElem_append_left (by omega)]
      exact hL i (by omega)
theorem dk_push (b : Nat) (W : World) (o1 o2 : Nat) (v1 v2 : Value) : DK b W ((W.setCell ⟨b, o1, none⟩ v1).drew.setCell ⟨b, o2, none⟩ v2) := (dk_set b o1 W v1).trans ((dk_drewN b 1 _).trans (dk_set b o2 _ v2))
/-- what set keeps -/
structure SSt (b : Nat) (w wr : World) (ds : List Nat) (dp lo : Int) : Prop where
  at_ : DAt wr b ds dp
  dg : Dg ds
  hd : ds = [] ∨ Hd ds
  lo_ : -lo ≤ dp
  hi_ : dp ≤ lo + 1000
  dk : DK b w wr
theorem hd_app {ds : List Nat} (h : ds = [] ∨ Hd ds) (c : Nat) (hc : ds = [] → c ≠ 0) : Hd (ds ++ [c]) := by
  rcases h with rfl | ⟨d, r, rfl, h0⟩
  · exact ⟨c, [], rfl, hc rfl⟩
  · exact ⟨d, r ++ [c], rfl, h0⟩
theorem dg_app {ds : List Nat} (h : Dg ds) (c : Nat) (hc : c ≤ 9) : Dg (ds ++ [c]) := fun d hd => by
  rcases List.mem_append.1 hd with h1 | h1
  · exact h d h1
  · rw [List.mem_singleton] at h1; omega
/-- what set answers -/
def SetP (b : Nat) (w : World) (e : Ending) (w' : World) : Prop := (∃ ok : Bool, e = .returned (.bool ok)) ∧ ∃ ds dp, SSt b w w' ds dp 400000
theorem SSt.fin {b : Nat} {w wr : World} {ds : List Nat} {dp lo : Int} (h : SSt b w wr ds dp lo) (hlo : lo ≤ 400000) (ok : Bool) : SetP b w (.returned (.bool ok)) wr :=
  ⟨⟨_, rfl⟩, ds, dp, h.at_, h.dg, h.hd, by have := h.lo_; omega, by have := h.hi_; omega, h.dk⟩
set_option maxRecDepth 20000 in
set_option maxHeartbeats 4000000 in
theorem set_any (b : Nat) (s : ByteArray) (w : World) (hs : s.size ≤ 100000) (hd : DAt w b [] 0) :
    Calls Tryz.prog 154 #[.pointer (some ⟨b, 0, none⟩), .string s] w fun e w' => SetP b w e w' := by
  obtain ⟨arr0, hD0, _, _⟩ := id hd
  obtain ⟨x2, y2⟩ := hD0.ng
  obtain ⟨x3, y3⟩ := hD0.tr
  have yz := hD0.fz
  have HD := Lib.hid hd
  clear hD0 hd
  by_cases h0 : s.size = 0
  · have i0 : (s.size : Int) ≤ 0 := by omega
    go_enter Tryz.func154, Tryz.ntmps154
    go_wp2_with fail
    go_ret
    exact ⟨⟨_, rfl⟩, [], 0, (HD.out.setNg _).setTr _, (fun d hd => by cases hd), .inl rfl, by omega, by omega, (dk_set _ _ _ _).trans (dk_set _ _ _ _)⟩
  have i0 : (0 : Int) < (s.size : Int) := by omega
  have hcs : ((s[0]'(by omega)).toNat : Int) = 43 ∨ (¬ ((s[0]'(by omega)).toNat : Int) = 43 ∧ ((s[0]'(by omega)).toNat : Int) = 45) ∨ (¬ ((s[0]'(by omega)).toNat : Int) = 43 ∧ ¬ ((s[0]'(by omega)).toNat : Int) = 45) := by omega
  have hst : SSt b w ((w.setCell ⟨b, 802, none⟩ (.bool false)).setCell ⟨b, 803, none⟩ (.bool false)) [] 0 0 := ⟨(HD.out.setNg _).setTr _, (fun d hd => by cases hd), .inl rfl, by omega, by omega, (dk_set _ _ _ _).trans (dk_set _ _ _ _)⟩
  have hst2 : SSt b w (((w.setCell ⟨b, 802, none⟩ (.bool false)).setCell ⟨b, 803, none⟩ (.bool false)).setCell ⟨b, 802, none⟩ (.bool true)) [] 0 0 := ⟨((HD.out.setNg _).setTr _).setNg _, (fun d hd => by cases hd), .inl rfl, by omega, by omega, ((dk_set _ _ _ _).trans (dk_set _ _ _ _)).trans (dk_set _ _ _ _)⟩
  have HST := Lib.hid hst; have HST2 := Lib.hid hst2
  clear hst hst2
  go_enter Tryz.func154, Tryz.ntmps154
  go_upto_block 0 with fail
  go_cut [5] from 22 to 33 (fun v5 wx => ∃ j : Nat, v5 = .int .i64 j ∧ j ≤ s.size ∧ Hid (SSt b w wx [] 0 0))
  case first => as_aux_lemma =>
    rcases hcs with c1 | ⟨c1, c2⟩ | ⟨c1, c2⟩
    · go_wp2_with fail
      go_meet
      exact ⟨1, rfl, by omega, HST⟩
    · go_wp2_with fail
      go_meet
      exact ⟨1, rfl, by omega, HST2⟩
    · go_wp2_with fail
      go_meet
      exact ⟨0, rfl, by omega, HST⟩
  case rest => as_aux_lemma =>
    obtain ⟨j, rfl, hj, hs0⟩ := hcut
    clear hcs y2 y3 yz
    go_upto_block 1 with fail
    go_cut [5, 6, 7] from 34 to 116 (fun v5 v6 v7 wx => ∃ (k : Nat) (d1 d2 : Bool) (ds : List Nat) (dp : Int), v5 = .int .i64 k ∧ v6 = .bool d1 ∧ v7 = .bool d2 ∧ k ≤ s.size ∧ Hid (SSt b w wx ds dp k))
    case first => as_aux_lemma =>
      go_wp2
      go_loopw [5, 6, 7] (fun v5 v6 v7 wr => ∃ (k : Nat) (d1 d2 : Bool) (ds : List Nat) (dp : Int), v5 = .int .i64 k ∧ v6 = .bool d1 ∧ v7 = .bool d2 ∧ k ≤ s.size ∧ Hid (SSt b w wr ds dp k)) (fun v5 _ _ _ => s.size - (intOf v5).toNat)
      case atStart => exact ⟨j, false, false, [], 0, rfl, rfl, rfl, hj, Lib.hid ⟨hs0.out.at_, hs0.out.dg, hs0.out.hd, by omega, by omega, hs0.out.dk⟩⟩
      case round =>
        obtain ⟨k, d1, d2, ds, dp, rfl, rfl, rfl, hk, hS⟩ := hrel
        obtain ⟨arr, hD, hL, h8⟩ := hS.out.at_
        have y8 := hD.nd
        have y9 := hD.dp
        have yz := hD.fz
        obtain ⟨x3, y3⟩ := hD.tr
        have b1 := hS.out.lo_
        have b2 := hS.out.hi_
        have HDD := Lib.hid hD
        clear hD hL
        by_cases hlt : k < s.size
        · have i1 : (k : Int) < (s.size : Int) := by omega
          have i2 : (0 : Int) ≤ (k : Int) := by omega
          by_cases c95 : (s[k].toNat : Int) = 95
          · have b95 : ((s[k].toNat : Int) == 95) = true := by simpa using c95
            go_wp2_with fail
            exact ⟨⟨k + 1, d1, d2, ds, dp, by go_num, rfl, rfl, by omega, Lib.hid ⟨hS.out.at_, hS.out.dg, hS.out.hd, by omega, by omega, hS.out.dk⟩⟩, by simp [intOf]; go_num⟩
          have b95 : ((s[k].toNat : Int) == 95) = false := by simpa using c95
          by_cases c46 : (s[k].toNat : Int) = 46
          · have b46 : ((s[k].toNat : Int) == 46) = true := by simpa using c46
            cases d1
            · go_wp2_with fail
              exact ⟨⟨k + 1, true, d2, ds, ds.length, by go_num, rfl, rfl, by omega, Lib.hid ⟨hS.out.at_.setDp _, hS.out.dg, hS.out.hd, by omega, by omega, hS.out.dk.trans (dk_set _ _ _ _)⟩⟩, by simp [intOf]; go_num⟩
            · go_wp2_with fail
              go_ret
              exact hS.out.fin (by omega) false
          have b46 : ((s[k].toNat : Int) == 46) = false := by simpa using c46
          by_cases cd : 48 ≤ (s[k].toNat : Int) ∧ (s[k].toNat : Int) ≤ 57
          · obtain ⟨cd1, cd2⟩ := cd
            by_cases c48 : (s[k].toNat : Int) = 48 ∧ ds = []
            · obtain ⟨c48, rfl⟩ := c48
              have b48 : ((s[k].toNat : Int) == 48) = true := by simpa using c48
              have y8' : wr.cell? ⟨b, 800, none⟩ = some (.int .i64 0) := y8
              clear y8
              go_wp2_with fail
              exact ⟨⟨k + 1, d1, true, [], dp - 1, by go_num, rfl, rfl, by omega, Lib.hid ⟨by have := hS.out.at_.setDp (dp - 1); (first | exact this | simpa using this), hS.out.dg, hS.out.hd, by omega, by omega, hS.out.dk.trans (dk_set _ _ _ _)⟩⟩, by simp [intOf]; go_num⟩
            · have hb : ((s[k].toNat : Int) == 48) = false ∨ (((s[k].toNat : Int) == 48) = true ∧ ((ds.length : Int) == 0) = false) := by
                by_cases e : (s[k].toNat : Int) = 48
                · right
                  refine ⟨by simpa using e, beq_eq_false_iff_ne.2 fun h0 => c48 ⟨e, List.eq_nil_of_length_eq_zero (by omega)⟩⟩
                · left; exact beq_eq_false_iff_ne.2 e
              obtain ⟨c, hc⟩ : ∃ c : Nat, (s[k].toNat : Int) = 48 + (c : Int) := ⟨((s[k].toNat : Int) - 48).toNat, by omega⟩
              have hc9 : c ≤ 9 := by omega
              have hcz : ds = [] → c ≠ 0 := fun e g => c48 ⟨by omega, e⟩
              have HC := Lib.hid hc; have HCZ := Lib.hid hcz
              clear c48 hc hcz c95 c46
              by_cases h800 : ds.length < 800
              · have i3 : (ds.length : Int) < 800 := by omega
                have i4 : (0 : Int) ≤ (ds.length : Int) := by omega
                have hcell : ∃ v, wr.cell? ⟨b, ds.length, none⟩ = some v := ⟨_, HDD.out.d ds.length h800⟩
                obtain ⟨v, hcell⟩ := hcell
                rcases hb with g1 | ⟨g1, g2⟩
                · go_upto_region 25 with fail
                  go_region
                  have y8b := (set_other wr b ds.length 800 (.int .u8 (s[k].toNat : Int)) (by omega)).trans y8
                  go_wp2_with fail
                  exact ⟨⟨k + 1, d1, true, ds ++ [c], dp, by go_num, rfl, rfl, by omega, Lib.hid ⟨hS.out.at_.push c h800 _ HC.out _ (by go_num), dg_app hS.out.dg c hc9, .inr (hd_app hS.out.hd c HCZ.out), by omega, by omega, hS.out.dk.trans (dk_push _ _ _ _ _ _)⟩⟩, by simp [intOf]; go_num⟩
                · go_upto_region 25 with fail
                  go_region
                  have y8b := (set_other wr b ds.length 800 (.int .u8 (s[k].toNat : Int)) (by omega)).trans y8
                  go_wp2_with fail
                  exact ⟨⟨k + 1, d1, true, ds ++ [c], dp, by go_num, rfl, rfl, by omega, Lib.hid ⟨hS.out.at_.push c h800 _ HC.out _ (by go_num), dg_app hS.out.dg c hc9, .inr (hd_app hS.out.hd c HCZ.out), by omega, by omega, hS.out.dk.trans (dk_push _ _ _ _ _ _)⟩⟩, by simp [intOf]; go_num⟩
              · have i3 : ¬ (ds.length : Int) < 800 := by omega
                have i5 : ((ds.length : Int) == 0) = false := beq_eq_false_iff_ne.2 (by omega)
                by_cases g : (s[k].toNat : Int) = 48
                · have g1 : ((s[k].toNat : Int) == 48) = true := by simpa using g
                  have g3 : ((s[k].toNat : Int) != 48) = false := by simpa using g
                  go_wp2_with fail
                  exact ⟨⟨k + 1, d1, true, ds, dp, by go_num, rfl, rfl, by omega, Lib.hid ⟨hS.out.at_, hS.out.dg, hS.out.hd, by omega, by omega, hS.out.dk⟩⟩, by simp [intOf]; go_num⟩
                · have g1 : ((s[k].toNat : Int) == 48) = false := beq_eq_false_iff_ne.2 g
                  have g3 : ((s[k].toNat : Int) != 48) = true := by simpa using g
                  go_wp2_with fail
                  exact ⟨⟨k + 1, d1, true, ds, dp, by go_num, rfl, rfl, by omega, Lib.hid ⟨hS.out.at_.setTr _, hS.out.dg, hS.out.hd, by omega, by omega, hS.out.dk.trans (dk_set _ _ _ _)⟩⟩, by simp [intOf]; go_num⟩
          · have hd : (48 ≤ (s[k].toNat : Int) ∧ ¬ (s[k].toNat : Int) ≤ 57) ∨ ¬ 48 ≤ (s[k].toNat : Int) := by omega
            clear cd
            rcases hd with ⟨e1, e2⟩ | e1
            all_goals
              go_wp2_with fail
              go_meet
              exact ⟨k, d1, d2, ds, dp, rfl, rfl, rfl, hk, hS⟩
        · have i1 : ¬ (k : Int) < (s.size : Int) := by omega
          go_wp2_with fail
          go_meet
          exact ⟨k, d1, d2, ds, dp, rfl, rfl, rfl, hk, hS⟩
    case rest => as_aux_lemma =>
      obtain ⟨k, d1, d2, ds, dp, rfl, rfl, rfl, hk, hS⟩ := hcut
      obtain ⟨arr, hD, _, _⟩ := hS.out.at_
      have y8 := hD.nd
      have y9 := hD.dp
      have yz := hD.fz
      have b1 := hS.out.lo_
      have b2 := hS.out.hi_
      have hl8 : ds.length ≤ 800 := by assumption
      clear hD
      cases d2
      · go_wp2_with fail
        go_ret
        exact hS.out.fin (by omega) false
      · go_upto_if 120 with fail
        go_cut [] from 119 to 127 (fun wx => ∃ dp2 : Int, Hid (SSt b w wx ds dp2 200000))
        case first => as_aux_lemma =>
          cases d1
          · go_wp2_with fail
            go_meet
            exact ⟨ds.length, Lib.hid ⟨hS.out.at_.setDp _, hS.out.dg, hS.out.hd, by omega, by omega, hS.out.dk.trans (dk_set _ _ _ _)⟩⟩
          · go_wp2_with fail
            go_meet
            exact ⟨dp, Lib.hid ⟨hS.out.at_, hS.out.dg, hS.out.hd, by omega, by omega, hS.out.dk⟩⟩
        case rest => as_aux_lemma =>
          clear y8 y9 yz b1 b2 hl8 hS HST HST2 HD hs0
          obtain ⟨dp2, hS⟩ := hcut
          obtain ⟨arr, hD, _, _⟩ := hS.out.at_
          have y9 := hD.dp
          have yz := hD.fz
          have b1 := hS.out.lo_
          have b2 := hS.out.hi_
          clear hD
          have hno : ∀ ok : Bool, SetP b w (.returned (.bool ok)) wc := fun ok => SSt.fin (lo := 200000) hS.out (by omega) ok
          have HNO := Lib.hid hno
          clear hno
          by_cases hx : ∃ h : k < s.size, Pf.low ((s[k]'h).toNat : Int) = 101
          · obtain ⟨hlt, hx⟩ := hx
            have i1 : (k : Int) < (s.size : Int) := by omega
            have i2 : (0 : Int) ≤ (k : Int) := by omega
            have bx : (Pf.low ((s[k]'hlt).toNat : Int) == 101) = true := by simpa using hx
            clear hx
            obtain ⟨k1, hk1⟩ : ∃ k1 : Nat, k + 1 = k1 := ⟨_, rfl⟩
            have hkk : (k : Int) + 1 = (k1 : Int) := by omega
            have HK1 := Lib.hid hk1
            clear hk1
            by_cases h1 : k1 < s.size
            · have i3 : ¬ (s.size : Int) ≤ (k1 : Int) := by omega
              have i4 : (k1 : Int) < (s.size : Int) := by omega
              have i5 : (0 : Int) ≤ (k1 : Int) := by omega
              have hcs : ((s[k1]'h1).toNat : Int) = 43 ∨ (¬ ((s[k1]'h1).toNat : Int) = 43 ∧ ((s[k1]'h1).toNat : Int) = 45) ∨ (¬ ((s[k1]'h1).toNat : Int) = 43 ∧ ¬ ((s[k1]'h1).toNat : Int) = 45) := by omega
              go_upto_block 4 with (first | (go_at_call 115; refine (Pf.lower_any _ _).mono ?_; rintro e w1 ⟨rfl, rfl⟩) | fail)
              go_cut [5, 8] from 145 to 155 (fun v5 v8 wx => ∃ (i : Nat) (es : Int), v5 = .int .i64 i ∧ v8 = .int .i64 es ∧ i ≤ s.size ∧ (es = 1 ∨ es = -1) ∧ wc = wx)
              case first => as_aux_lemma =>
                rcases hcs with c1 | ⟨c1, c2⟩ | ⟨c1, c2⟩
                · go_wp2_with fail
                  go_meet
                  exact ⟨k1 + 1, 1, by go_num, rfl, by omega, .inl rfl, rfl⟩
                · go_wp2_with fail
                  go_meet
                  exact ⟨k1 + 1, -1, by go_num, rfl, by omega, .inr rfl, rfl⟩
                · go_wp2_with fail
                  go_meet
                  exact ⟨k1, 1, by go_num, rfl, by omega, .inl rfl, rfl⟩
              case rest => as_aux_lemma =>
                obtain ⟨i, es, rfl, rfl, hi, hes, rfl⟩ := hcut
                clear hcs
                by_cases hq : ∃ h : i < s.size, 48 ≤ ((s[i]'h).toNat : Int) ∧ ((s[i]'h).toNat : Int) ≤ 57
                · obtain ⟨hlt2, q1, q2⟩ := hq
                  have i1 : ¬ (s.size : Int) ≤ (i : Int) := by omega
                  have i2 : (0 : Int) ≤ (i : Int) := by omega
                  have i3 : (i : Int) < (s.size : Int) := by omega
                  have q3 : ¬ ((s[i]'hlt2).toNat : Int) < 48 := by omega
                  have q4 : ¬ (57 : Int) < ((s[i]'hlt2).toNat : Int) := by omega
                  go_wp2_with fail
                  clear q1 q2 q3 q4
                  go_loopw [5, 9] (fun v5 v9 wr => (∃ (n : Nat) (e : Int), v5 = .int .i64 n ∧ v9 = .int .i64 e ∧ n ≤ s.size ∧ 0 ≤ e ∧ e ≤ 99999) ∧ wc = wr) (fun v5 _ _ => s.size - (intOf v5).toNat)
                  case atStart => exact ⟨⟨i, 0, rfl, rfl, hi, by omega, by omega⟩, rfl⟩
                  case round =>
                    obtain ⟨⟨n, e, rfl, rfl, hn, e0, e1⟩, rfl⟩ := hrel
                    by_cases hl : n < s.size
                    · have i1 : (n : Int) < (s.size : Int) := by omega
                      have i2 : (0 : Int) ≤ (n : Int) := by omega
                      by_cases c95 : ((s[n]'hl).toNat : Int) = 95
                      · have q1 : (48 : Int) ≤ ((s[n]'hl).toNat : Int) := by omega
                        have q2 : ¬ ((s[n]'hl).toNat : Int) ≤ 57 := by omega
                        have q3 : (((s[n]'hl).toNat : Int) == 95) = true := by simpa using c95
                        go_wp2_with fail
                        exact ⟨⟨⟨n + 1, e, by go_num, rfl, by omega, e0, e1⟩, by first | rfl | trivial⟩, by simp [intOf]; go_num⟩
                      have q3 : (((s[n]'hl).toNat : Int) == 95) = false := by simpa using c95
                      by_cases cd : 48 ≤ ((s[n]'hl).toNat : Int) ∧ ((s[n]'hl).toNat : Int) ≤ 57
                      · obtain ⟨q1, q2⟩ := cd
                        by_cases he : e < 10000
                        · go_wp2_with fail
                          exact ⟨⟨⟨n + 1, e * 10 + ((s[n]'hl).toNat : Int) - 48, by go_num, by go_num, by omega, by omega, by omega⟩, by first | rfl | trivial⟩, by simp [intOf]; go_num⟩
                        · go_wp2_with fail
                          exact ⟨⟨⟨n + 1, e, by go_num, rfl, by omega, e0, e1⟩, by first | rfl | trivial⟩, by simp [intOf]; go_num⟩
                      · have hd : (48 ≤ ((s[n]'hl).toNat : Int) ∧ ¬ ((s[n]'hl).toNat : Int) ≤ 57) ∨ ¬ 48 ≤ ((s[n]'hl).toNat : Int) := by omega
                        have hne : ((n : Int) != (s.size : Int)) = true := by rw [bne_iff_ne]; omega
                        clear cd
                        rcases hd with ⟨d1, d2⟩ | d1
                        all_goals
                          go_wp2_with fail
                          go_ret
                          exact SSt.fin (lo := 400000) ⟨hS.out.at_.setDp _, hS.out.dg, hS.out.hd, by (rcases hes with rfl | rfl) <;> (simp only [wrap64]; omega), by (rcases hes with rfl | rfl) <;> (simp only [wrap64]; omega), hS.out.dk.trans (dk_set _ _ _ _)⟩ (by omega) _
                    · have i1 : ¬ (n : Int) < (s.size : Int) := by omega
                      have hne : ((n : Int) != (s.size : Int)) = false := by
                        have : (n : Int) = (s.size : Int) := by omega
                        simpa using this
                      go_wp2_with fail
                      go_ret
                      exact SSt.fin (lo := 400000) ⟨hS.out.at_.setDp _, hS.out.dg, hS.out.hd, by (rcases hes with rfl | rfl) <;> (simp only [wrap64]; omega), by (rcases hes with rfl | rfl) <;> (simp only [wrap64]; omega), hS.out.dk.trans (dk_set _ _ _ _)⟩ (by omega) _
                · have hq2 : (s.size : Int) ≤ (i : Int) ∨ (∃ h : i < s.size, ((s[i]'h).toNat : Int) < 48) ∨ (∃ h : i < s.size, ¬ ((s[i]'h).toNat : Int) < 48 ∧ 57 < ((s[i]'h).toNat : Int)) := by
                    by_cases h : i < s.size
                    · right
                      by_cases g : ((s[i]'h).toNat : Int) < 48
                      · exact .inl ⟨h, g⟩
                      · exact .inr ⟨h, g, by
                          by_cases g2 : 57 < ((s[i]'h).toNat : Int)
                          · exact g2
                          · exact absurd ⟨h, by omega, by omega⟩ hq⟩
                    · left; omega
                  clear hq
                  rcases hq2 with g | ⟨h, g⟩ | ⟨h, g, g2⟩
                  · go_wp2_with fail
                    go_ret
                    exact HNO.out _
                  · have i1 : ¬ (s.size : Int) ≤ (i : Int) := by omega
                    have i2 : (0 : Int) ≤ (i : Int) := by omega
                    have i3 : (i : Int) < (s.size : Int) := by omega
                    go_wp2_with fail
                    go_ret
                    exact HNO.out _
                  · have i1 : ¬ (s.size : Int) ≤ (i : Int) := by omega
                    have i2 : (0 : Int) ≤ (i : Int) := by omega
                    have i3 : (i : Int) < (s.size : Int) := by omega
                    go_wp2_with fail
                    go_ret
                    exact HNO.out _
            · have i3 : (s.size : Int) ≤ (k1 : Int) := by omega
              go_wp2_with (first | (go_at_call 115; refine (Pf.lower_any _ _).mono ?_; rintro e w1 ⟨rfl, rfl⟩) | fail)
              go_ret
              exact HNO.out _
          · have hx2 : (s.size : Int) ≤ (k : Int) ∨ ∃ h : k < s.size, (Pf.low ((s[k]'h).toNat : Int) == 101) = false := by
              by_cases h : k < s.size
              · right; exact ⟨h, beq_eq_false_iff_ne.2 fun e => hx ⟨h, e⟩⟩
              · left; omega
            clear hx
            rcases hx2 with g | ⟨h, g⟩
            · have i1 : ¬ (k : Int) < (s.size : Int) := by omega
              have hne : ((k : Int) != (s.size : Int)) = false := by
                have : (k : Int) = (s.size : Int) := by omega
                simpa using this
              go_wp2_with fail
              go_ret
              exact HNO.out _
            · have i1 : (k : Int) < (s.size : Int) := by omega
              have i2 : (0 : Int) ≤ (k : Int) := by omega
              have hne : ((k : Int) != (s.size : Int)) = true := by rw [bne_iff_ne]; omega
              go_wp2_with (first | (go_at_call 115; refine (Pf.lower_any _ _).mono ?_; rintro e w1 ⟨rfl, rfl⟩) | fail)
              go_ret
              exact HNO.out _
end Go.Proofs.YtnccpddjdgndcaaGreatDoor.Dc
end

section
/- THE WALK OF (*decimal).floatBits where its point is near (second part): it answers. -/
namespace Go.Proofs.YtnccpddjdgndcaaGreatDoor.Dc
open Go.RowKit
theorem pn_big (k : Nat) (h : 9 ≤ k) : pn k = 27 := if_neg (by omega)
/-- what the tail keeps -/
def TailOk (b : Nat) (w W : World) (s : DS) : Prop := DAt W b s.ds s.dp ∧ Ok s ∧ DK b w W ∧ -60000 ≤ s.dp ∧ s.dp ≤ 1000

set_option maxRecDepth 20000 in
set_option maxHeartbeats 16000000 in
theorem fb_some (b : Nat) (s : DS) (w : World) (hd : DAt w b s.ds s.dp) (hok : Ok s) (B R o c : Nat) (hF : TbW w B R o c) (hB : B ≤ b) (hs : B ≤ w.heap.size) (hlo : -330 ≤ s.dp) (hhi : s.dp ≤ 310) :
    Calls Tryz.prog 155 #[.pointer (some ⟨b, 0, none⟩), (.pointer (some ⟨10, 0, none⟩))] w fun e w' => AnsF e ∧ DK b w w' := by
  obtain ⟨arr, hD, _, _⟩ := id hd
  have y8 := hD.nd
  have y9 := hD.dp
  have hl1 : 1 ≤ s.ds.length := by obtain ⟨d, t, e, _⟩ := hok.hd; rw [e]; simp
  have n1 : ((s.ds.length : Int) == 0) = false := beq_eq_false_iff_ne.2 (by omega)
  have m1 : ¬ (310 : Int) < s.dp := by omega
  have m2 : ¬ s.dp < -330 := by omega
  have hf1 := F1.start hok hlo hhi
  have HF := Lib.hid hF; have HD := Lib.hid hd; have HF1 := Lib.hid hf1
  clear hD hF hok hd hf1
  go_enter Tryz.func155, Tryz.ntmps155
  go_wp2
  apply wp_scope_fwd
  go_hide hQ
  have HQ := Lib.hid hQ
  clear hQ
  go_wp2
  clear y8 y9 hl1 n1 m1 m2
  go_loopg [6] (fl s.ds s.dp) (fun g v6 wr => ∃ (s3 : DS) (e : Int) (k : Nat), v6 = .int .i64 e ∧ Hid (fl s3.ds s3.dp = g) ∧ Hid (F1 s3 e k) ∧ Hid (DAt wr b s3.ds s3.dp ∧ DK b w wr))
  case atStart => exact ⟨s, 0, 0, rfl, Lib.hid rfl, HF1.out, Lib.hid ⟨HD.out, DK.refl _ _⟩⟩
  case round =>
    obtain ⟨s3, e, k, rfl, hg, hf, hdk⟩ := hrel
    have hT := HF.out.dk hdk.out.2 hB hs
    have z3 := hT.tb
    have y9 : wr.cell? ⟨b, 801, none⟩ = some (.int .i64 s3.dp) := by obtain ⟨_, hD, _⟩ := hdk.out.1; exact hD.dp
    obtain ⟨b1, b2, b3, b4⟩ := hf.out.bds
    have HT := Lib.hid hT
    have hT2 := hT
    clear hT
    by_cases hp : 0 < s3.dp
    · obtain ⟨p, hpp⟩ : ∃ p : Nat, s3.dp = (p : Int) := ⟨s3.dp.toNat, by omega⟩
      have hst := hf.out.step hp
      rw [show s3.dp.toNat = p by omega] at hst
      obtain ⟨k1, k2⟩ := pn_bds p
      have hsh := fun n => shift_right b (pn p) s3 (wr.drewN n) (hdk.out.1.drewN n) hf.out.ok k1 (by omega) ⟨by omega, by omega⟩
      have z4 := fun h => hT2.row p h
      rw [hpp] at y9
      have i0 : (0 : Int) < (p : Int) := by omega
      have i1 : (0 : Int) ≤ (p : Int) := by omega
      have HST := Lib.hid hst
      clear hst hT2 hp
      by_cases hp9 : 9 ≤ p
      · rw [pn_big p hp9] at hsh HST
        have hsh2 : ∀ n, Calls Tryz.prog 131 #[.pointer (some ⟨b, 0, none⟩), .int .i64 (-27)] (wr.drewN n) _ := hsh
        have i2 : (9 : Int) ≤ (p : Int) := by omega
        have HSH := Lib.hid hsh2
        clear hsh hsh2 z4
        go_wp2_with fail
        go_quiet (fail)
        go_wp2_with (first | (go_at_call 131; (refine (HSH.out _).mono ?_); rintro e w1 ⟨rfl, hw1⟩) | fail)
        obtain ⟨⟨s2, hd2, ho2, hr2, _, _⟩, hk2⟩ := hw1
        obtain rfl := hr2 (by omega)
        obtain ⟨f1, f2⟩ := HST.out
        go_roundg (fl (right 27 s3).ds (right 27 s3).dp)
        case measure => rw [← hg.out]; exact f2
        case rel => exact ⟨right 27 s3, _, k + 1, by go_num, Lib.hid rfl, Lib.hid f1, Lib.hid ⟨hd2, hdk.out.2.trans ((dk_drewN b _ _).trans hk2)⟩⟩
      · have z5 := z4 (by omega)
        have i2 : ¬ (9 : Int) ≤ (p : Int) := by omega
        have i3 : (p : Int) < 9 := by omega
        generalize pn p = q at *
        have HSH := Lib.hid hsh
        clear hsh z4
        go_wp2_with fail
        go_quiet (fail)
        go_wp2_with fail
        go_quiet (fail)
        go_wp2_with (first | (go_at_call 131; (refine (HSH.out _).mono ?_); rintro e w1 ⟨rfl, hw1⟩) | fail)
        obtain ⟨⟨s2, hd2, ho2, hr2, _, _⟩, hk2⟩ := hw1
        obtain rfl := hr2 (by omega)
        obtain ⟨f1, f2⟩ := HST.out
        go_roundg (fl (right q s3).ds (right q s3).dp)
        case measure => rw [← hg.out]; exact f2
        case rel => exact ⟨right q s3, _, k + 1, by go_num, Lib.hid rfl, Lib.hid f1, Lib.hid ⟨hd2, hdk.out.2.trans ((dk_drewN b _ _).trans hk2)⟩⟩
    · have hstart := F2.start (e := e) hf.out.ok b3 (by omega)
      have HS2 := Lib.hid hstart
      clear hstart hT2
      go_wp2_with fail
      clear z3 y9
      go_loopg [6] (iv s3.ds s3.dp) (fun g v6 wy => ∃ (s4 : DS) (e4 : Int) (k4 j4 : Nat), v6 = .int .i64 e4 ∧ Hid (iv s4.ds s4.dp = g) ∧ Hid (F2 e s4 e4 k4 j4) ∧ Hid (DAt wy b s4.ds s4.dp ∧ DK b w wy))
      case atStart => exact ⟨s3, e, 0, 0, rfl, Lib.hid rfl, HS2.out, hdk⟩
      case round =>
        obtain ⟨s4, e4, k4, j4, rfl, hg4, hf4, hdk4⟩ := hrel
        clear hg hf hdk HT HS2
        have hT := HF.out.dk hdk4.out.2 hB hs
        have z3 := hT.tb
        have y9 : wr.cell? ⟨b, 801, none⟩ = some (.int .i64 s4.dp) := by obtain ⟨_, hD, _⟩ := hdk4.out.1; exact hD.dp
        obtain ⟨c1, c2, c3, c4⟩ := hf4.out.bds
        obtain ⟨d0, dr, hdd, hd0⟩ : ∃ d0 dr, s4.ds = d0 :: dr ∧ d0 ≤ 9 := by
          obtain ⟨d, t, e, _⟩ := hf4.out.ok.hd
          exact ⟨d, t, e, hf4.out.ok.dg d (by rw [e]; exact List.mem_cons_self)⟩
        have y0 : wr.cell? ⟨b, 0, none⟩ = some (.int .u8 ((48 + d0 : Nat) : Int)) := by
          obtain ⟨arr, hD, hL, _⟩ := hdk4.out.1
          have h := hD.d 0 (by omega)
          have h2 := hL 0 (by rw [hdd]; simp)
          simp only [hdd, List.getElem_cons_zero] at h2
          rw [h2] at h
          exact h
        obtain ⟨v0, hv0⟩ : ∃ v0 : Int, ((48 + d0 : Nat) : Int) = v0 := ⟨_, rfl⟩
        rw [hv0] at y0
        have HDD := Lib.hid hdd; have HV0 := Lib.hid hv0
        have hlc : ∀ n, LcT (wr.drewN n) := fun n => hT.lc.drewN n
        clear hdd
        by_cases hn : s4.dp < 0
        · obtain ⟨p, hpp⟩ : ∃ p : Nat, s4.dp = -(p : Int) := ⟨(-s4.dp).toNat, by omega⟩
          have hst := hf4.out.step (.inl hn)
          rw [show (-s4.dp).toNat = p by omega] at hst
          obtain ⟨k1, k2⟩ := pn_bds p
          have hsh := fun n => shift_left b (pn p) s4 (wr.drewN n) (hdk4.out.1.drewN n) hf4.out.ok k1 (by omega) ⟨by omega, by omega⟩ (hlc n)
          have z4 := fun h => hT.row p h
          rw [hpp] at y9
          have i0 : 0 < p := by omega
          have i0' : (0 : Int) < (p : Int) := by omega
          have i1 : (0 : Int) ≤ (p : Int) := by omega
          have i4 : -(p : Int) < 0 := by omega
          have HST := Lib.hid hst
          clear hst hT hn hv0 hlc
          by_cases hp9 : 9 ≤ p
          · rw [pn_big p hp9] at hsh HST
            have hsh2 : ∀ n, Calls Tryz.prog 131 #[.pointer (some ⟨b, 0, none⟩), .int .i64 27] (wr.drewN n) _ := hsh
            have i2 : (9 : Int) ≤ (p : Int) := by omega
            have HSH := Lib.hid hsh2
            clear hsh hsh2 z4
            go_wp2_with fail
            go_quiet (fail)
            go_wp2_with (first | (go_at_call 131; (refine (HSH.out _).mono ?_); rintro e w1 ⟨rfl, hd2, hk2⟩) | fail)
            obtain ⟨⟨k5, j5, f1⟩, f2⟩ := HST.out
            go_roundg (iv (left 27 s4).ds (left 27 s4).dp)
            case measure => rw [← hg4.out]; exact f2
            case rel => exact ⟨left 27 s4, _, k5, j5, by go_num, Lib.hid rfl, Lib.hid f1, Lib.hid ⟨hd2, hdk4.out.2.trans ((dk_drewN b _ _).trans hk2)⟩⟩
          · have z5 := z4 (by omega)
            have i2 : ¬ (9 : Int) ≤ (p : Int) := by omega
            have i3 : (p : Int) < 9 := by omega
            generalize pn p = q at *
            have HSH := Lib.hid hsh
            clear hsh z4
            go_wp2_with fail
            go_quiet (fail)
            go_wp2_with fail
            go_quiet (fail)
            go_wp2_with (first | (go_at_call 131; (refine (HSH.out _).mono ?_); rintro e w1 ⟨rfl, hd2, hk2⟩) | fail)
            obtain ⟨⟨k5, j5, f1⟩, f2⟩ := HST.out
            go_roundg (iv (left q s4).ds (left q s4).dp)
            case measure => rw [← hg4.out]; exact f2
            case rel => exact ⟨left q s4, _, k5, j5, by go_num, Lib.hid rfl, Lib.hid f1, Lib.hid ⟨hd2, hdk4.out.2.trans ((dk_drewN b _ _).trans hk2)⟩⟩
        · by_cases hz : s4.dp = 0 ∧ v0 < 53
          · obtain ⟨hz1, hz2⟩ := hz
            have hh : Half s4 := .inr ⟨hz1, d0, dr, HDD.out, by omega⟩
            have hst := hf4.out.step hh
            rw [hz1] at hst
            have hst2 : (∃ c2 j2, F2 e (left 1 s4) (e4 - ((1 : Nat) : Int)) c2 j2) ∧ iv (left 1 s4).ds (left 1 s4).dp < iv s4.ds 0 := hst
            rw [hz1] at y9 hg4
            have hsh := fun n => shift_left b 1 s4 (wr.drewN n) (hdk4.out.1.drewN n) hf4.out.ok (by omega) (by omega) ⟨by omega, by omega⟩ (hlc n)
            have hsh2 : ∀ n, Calls Tryz.prog 131 #[.pointer (some ⟨b, 0, none⟩), .int .i64 1] (wr.drewN n) _ := hsh
            have z5 : wr.cell? ⟨R, o, none⟩ = some (.int .i64 1) := hT.row 0 (by omega)
            have HSH := Lib.hid hsh2; have HST := Lib.hid hst2
            clear hst hst2 hT hn hv0 hlc hsh hsh2 hh hz1
            go_wp2_with fail
            go_quiet (fail)
            go_wp2_with fail
            go_quiet (fail)
            go_wp2_with (first | (go_at_call 131; (refine (HSH.out _).mono ?_); rintro e w1 ⟨rfl, hd2, hk2⟩) | fail)
            obtain ⟨⟨k5, j5, f1⟩, f2⟩ := HST.out
            go_roundg (iv (left 1 s4).ds (left 1 s4).dp)
            case measure => rw [← hg4.out]; exact f2
            case rel => exact ⟨left 1 s4, _, k5, j5, by go_num, Lib.hid rfl, Lib.hid f1, Lib.hid ⟨hd2, hdk4.out.2.trans ((dk_drewN b _ _).trans hk2)⟩⟩
          · have hw : (0 < s4.dp ∧ ¬ s4.dp = 0) ∨ (s4.dp = 0 ∧ ¬ v0 < 53) := by omega
            have hok4 := hf4.out.ok
            have HK4 := Lib.hid hok4
            clear hz hf4 hg4 hlc hok4
            have HT4 := Lib.hid hT
            have x0 := hT.i0; have x1 := hT.i1; have x2 := hT.i2
            clear hT z3 hv0 HDD HV0
            rcases hw with ⟨w1, w2⟩ | ⟨w1, w2⟩
            · have w3 : (s4.dp == 0) = false := beq_eq_false_iff_ne.2 w2
              go_upto_if 111 with fail
              have hdk5 : DK b w wr := hdk4.out.2
              have HDK5 := Lib.hid hdk5
              clear hdk5
              go_cut [6] from 105 to 125 (fun v6 wx => ∃ (s5 : DS) (E : Int), v6 = .int .i64 E ∧ -1022 ≤ E ∧ E ≤ 28000 ∧ Hid (TailOk b w wx s5))
              case first => as_aux_lemma =>
                by_cases he : e4 - 1 < -1022
                · obtain ⟨N, hN⟩ : ∃ N : Nat, -1022 - (e4 - 1) = (N : Int) := ⟨(-1022 - (e4 - 1)).toNat, by omega⟩
                  have hsh := shift_right b N s4 wr hdk4.out.1 HK4.out (by omega) (by omega) ⟨by omega, by omega⟩
                  have hE : (e4 - 1) + (N : Int) = -1022 := by omega
                  have HSH := Lib.hid hsh; have HE := Lib.hid hE
                  clear hsh hE
                  go_wp2_with (first | (go_at_call 131; (refine (HSH.out).mono ?_); rintro e w1 ⟨rfl, hw1⟩) | fail)
                  go_meet
                  obtain ⟨⟨s5, hd5, ho5, _, hl5, hh5⟩, hk5⟩ := hw1
                  exact ⟨s5, -1022, by go_num, by omega, by omega, Lib.hid ⟨hd5, ho5, HDK5.out.trans hk5, by omega, by omega⟩⟩
                · go_wp2_with fail
                  go_meet
                  exact ⟨s4, e4 - 1, rfl, by omega, by omega, Lib.hid ⟨hdk4.out.1, HK4.out, HDK5.out, by omega, by omega⟩⟩
              case rest => as_aux_lemma =>
                obtain ⟨s5, E, rfl, hE0, hE1, ht⟩ := hcut
                obtain ⟨hd5, ho5, hk5, hl5, hh5⟩ := ht.out
                have hT5 := HF.out.dk hk5 hB hs
                have x0 := hT5.i0
                have x1 := hT5.i1
                have x2 := hT5.i2
                have hQ := HQ.out
                clear HQ y9 y0 w1 w2 ht  hdk4
                by_cases hov : 2047 ≤ E + 1023
                · obtain ⟨ng, y2⟩ : ∃ ng : Bool, wc.cell? ⟨b, 802, none⟩ = some (.bool ng) := by obtain ⟨_, hD, _⟩ := hd5; exact hD.ng
                  have HK5 := Lib.hid hk5
                  clear hd5 hT5 hk5 ho5
                  cases ng
                  · go_wp2_with fail
                    go_quiet (fail)
                    go_wp2_with fail
                    go_step3
                    subst hQ
                    refine ⟨_, rfl, ?_⟩
                    go_wp2
                    go_quiet (fail)
                    go_wp2
                    go_step3
                    go_wp2
                    go_quiet (fail)
                    go_wp2
                    rw [Exit.noGoto_ret]
                    go_returns
                    exact ⟨⟨_, _, rfl, (or_u64_bd _ _).1, (or_u64_bd _ _).2⟩, HK5.out.trans (by first | exact DK.refl _ _ | exact dk_drewN _ _ _ | exact two_drew _ _ _ _ | exact drews _ _ [_, _, _] | exact drews _ _ [_, _, _, _])⟩
                  · go_wp2_with fail
                    go_quiet (fail)
                    go_wp2_with fail
                    go_step3
                    subst hQ
                    refine ⟨_, rfl, ?_⟩
                    go_wp2
                    go_quiet (fail)
                    go_wp2
                    go_step3
                    go_wp2
                    go_quiet (fail)
                    go_wp2
                    go_quiet (fail)
                    go_wp2
                    rw [Exit.noGoto_ret]
                    go_returns
                    exact ⟨⟨_, _, rfl, (or_u64_bd _ _).1, (or_u64_bd _ _).2⟩, HK5.out.trans (by first | exact DK.refl _ _ | exact dk_drewN _ _ _ | exact two_drew _ _ _ _ | exact drews _ _ [_, _, _] | exact drews _ _ [_, _, _, _])⟩
                · have hsh := fun n => shift_left b 53 s5 (wc.drewN n) (hd5.drewN n) ho5 (by omega) (by omega) ⟨by omega, by omega⟩ (hT5.lc.drewN n)
                  have hsh2 : ∀ n, Calls Tryz.prog 131 #[.pointer (some ⟨b, 0, none⟩), .int .i64 53] (wc.drewN n) _ := hsh
                  have ho6 := left_ok 53 (by omega) s5 ho5
                  generalize left 53 s5 = s6 at *
                  have HSH := Lib.hid hsh2; have HK5 := Lib.hid hk5; have HO6 := Lib.hid ho6
                  clear hsh hsh2 hd5 ho5 hk5 ho6 hT5
                  go_wp2_with fail
                  go_quiet (fail)
                  go_upto_region 32 with (first | (go_at_call 131; (refine (HSH.out _).mono ?_); rintro e w1 ⟨rfl, hd6, hk6⟩) | fail)
                  have hk7 : DK b w w1 := HK5.out.trans ((dk_drewN b _ _).trans hk6)
                  have hT7 := HF.out.dk hk7 hB hs
                  have v0 := hT7.i0
                  have v1 := hT7.i1
                  have v2 := hT7.i2
                  obtain ⟨ng, y2⟩ : ∃ ng : Bool, w1.cell? ⟨b, 802, none⟩ = some (.bool ng) := by obtain ⟨_, hD, _⟩ := hd6; exact hD.ng
                  have hri := rint_any b s6.ds s6.dp w1 hd6 HO6.out.dg
                  have HRI := Lib.hid hri; have HK7 := Lib.hid hk7
                  clear hri hT7 hd6 hk6 x0 x1 x2 HSH
                  go_upto_region 33 with (first | (go_at_call 191; (refine (HRI.out).mono ?_); rintro e w2 ⟨⟨m, rfl, hm0, hm1⟩, rfl⟩) | fail)
                  by_cases hm : m = 9007199254740992
                  · subst hm
                    clear hm0 hm1
                    by_cases hov2 : 2047 ≤ E + 1 + 1023
                    · cases ng
                      · go_wp2_with fail
                        go_quiet (fail)
                        go_wp2_with fail
                        go_step3
                        subst hQ
                        refine ⟨_, rfl, ?_⟩
                        go_wp2
                        go_quiet (fail)
                        go_wp2
                        go_step3
                        go_wp2
                        go_quiet (fail)
                        go_wp2
                        rw [Exit.noGoto_ret]
                        go_returns
                        exact ⟨⟨_, _, rfl, (or_u64_bd _ _).1, (or_u64_bd _ _).2⟩, HK7.out.trans (by first | exact DK.refl _ _ | exact dk_drewN _ _ _ | exact two_drew _ _ _ _ | exact drews _ _ [_, _, _] | exact drews _ _ [_, _, _, _])⟩
                      · go_wp2_with fail
                        go_quiet (fail)
                        go_wp2_with fail
                        go_step3
                        subst hQ
                        refine ⟨_, rfl, ?_⟩
                        go_wp2
                        go_quiet (fail)
                        go_wp2
                        go_step3
                        go_wp2
                        go_quiet (fail)
                        go_wp2
                        go_quiet (fail)
                        go_wp2
                        rw [Exit.noGoto_ret]
                        go_returns
                        exact ⟨⟨_, _, rfl, (or_u64_bd _ _).1, (or_u64_bd _ _).2⟩, HK7.out.trans (by first | exact DK.refl _ _ | exact dk_drewN _ _ _ | exact two_drew _ _ _ _ | exact drews _ _ [_, _, _] | exact drews _ _ [_, _, _, _])⟩
                    · have hb : bits .and .u64 4503599627370496 4503599627370496 = 4503599627370496 := by decide
                      cases ng
                      · go_wp2_with fail
                        go_quiet (fail)
                        go_wp2_with fail
                        go_step3
                        subst hQ
                        refine ⟨_, rfl, ?_⟩
                        go_wp2
                        go_quiet (fail)
                        go_wp2
                        rw [Exit.noGoto_ret]
                        go_returns
                        exact ⟨⟨_, _, rfl, (or_u64_bd _ _).1, (or_u64_bd _ _).2⟩, HK7.out.trans (by first | exact DK.refl _ _ | exact dk_drewN _ _ _ | exact two_drew _ _ _ _ | exact drews _ _ [_, _, _] | exact drews _ _ [_, _, _, _])⟩
                      · go_wp2_with fail
                        go_quiet (fail)
                        go_wp2_with fail
                        go_step3
                        subst hQ
                        refine ⟨_, rfl, ?_⟩
                        go_wp2
                        go_quiet (fail)
                        go_wp2
                        go_quiet (fail)
                        go_wp2
                        rw [Exit.noGoto_ret]
                        go_returns
                        exact ⟨⟨_, _, rfl, (or_u64_bd _ _).1, (or_u64_bd _ _).2⟩, HK7.out.trans (by first | exact DK.refl _ _ | exact dk_drewN _ _ _ | exact two_drew _ _ _ _ | exact drews _ _ [_, _, _] | exact drews _ _ [_, _, _, _])⟩
                  · have hmb : (m == 9007199254740992) = false := beq_eq_false_iff_ne.2 hm
                    clear hm
                    cases hb : (bits .and .u64 m 4503599627370496 == 0)
                    · cases ng
                      · go_wp2_with fail
                        go_step3
                        subst hQ
                        refine ⟨_, rfl, ?_⟩
                        go_wp2
                        go_quiet (fail)
                        go_wp2
                        rw [Exit.noGoto_ret]
                        go_returns
                        exact ⟨⟨_, _, rfl, (or_u64_bd _ _).1, (or_u64_bd _ _).2⟩, HK7.out.trans (by first | exact DK.refl _ _ | exact dk_drewN _ _ _ | exact two_drew _ _ _ _ | exact drews _ _ [_, _, _] | exact drews _ _ [_, _, _, _])⟩
                      · go_wp2_with fail
                        go_step3
                        subst hQ
                        refine ⟨_, rfl, ?_⟩
                        go_wp2
                        go_quiet (fail)
                        go_wp2
                        go_quiet (fail)
                        go_wp2
                        rw [Exit.noGoto_ret]
                        go_returns
                        exact ⟨⟨_, _, rfl, (or_u64_bd _ _).1, (or_u64_bd _ _).2⟩, HK7.out.trans (by first | exact DK.refl _ _ | exact dk_drewN _ _ _ | exact two_drew _ _ _ _ | exact drews _ _ [_, _, _] | exact drews _ _ [_, _, _, _])⟩
                    · cases ng
                      · go_wp2_with fail
                        go_step3
                        subst hQ
                        refine ⟨_, rfl, ?_⟩
                        go_wp2
                        go_quiet (fail)
                        go_wp2
                        rw [Exit.noGoto_ret]
                        go_returns
                        exact ⟨⟨_, _, rfl, (or_u64_bd _ _).1, (or_u64_bd _ _).2⟩, HK7.out.trans (by first | exact DK.refl _ _ | exact dk_drewN _ _ _ | exact two_drew _ _ _ _ | exact drews _ _ [_, _, _] | exact drews _ _ [_, _, _, _])⟩
                      · go_wp2_with fail
                        go_step3
                        subst hQ
                        refine ⟨_, rfl, ?_⟩
                        go_wp2
                        go_quiet (fail)
                        go_wp2
                        go_quiet (fail)
                        go_wp2
                        rw [Exit.noGoto_ret]
                        go_returns
                        exact ⟨⟨_, _, rfl, (or_u64_bd _ _).1, (or_u64_bd _ _).2⟩, HK7.out.trans (by first | exact DK.refl _ _ | exact dk_drewN _ _ _ | exact two_drew _ _ _ _ | exact drews _ _ [_, _, _] | exact drews _ _ [_, _, _, _])⟩
            · have w4 : (s4.dp == 0) = true := by simpa using w1
              have w5 : ¬ s4.dp < 0 := by omega
              go_upto_if 111 with fail
              have hdk5 : DK b w wr := hdk4.out.2
              have HDK5 := Lib.hid hdk5
              clear hdk5
              go_cut [6] from 105 to 125 (fun v6 wx => ∃ (s5 : DS) (E : Int), v6 = .int .i64 E ∧ -1022 ≤ E ∧ E ≤ 28000 ∧ Hid (TailOk b w wx s5))
              case first => as_aux_lemma =>
                by_cases he : e4 - 1 < -1022
                · obtain ⟨N, hN⟩ : ∃ N : Nat, -1022 - (e4 - 1) = (N : Int) := ⟨(-1022 - (e4 - 1)).toNat, by omega⟩
                  have hsh := shift_right b N s4 wr hdk4.out.1 HK4.out (by omega) (by omega) ⟨by omega, by omega⟩
                  have hE : (e4 - 1) + (N : Int) = -1022 := by omega
                  have HSH := Lib.hid hsh; have HE := Lib.hid hE
                  clear hsh hE
                  go_wp2_with (first | (go_at_call 131; (refine (HSH.out).mono ?_); rintro e w1 ⟨rfl, hw1⟩) | fail)
                  go_meet
                  obtain ⟨⟨s5, hd5, ho5, _, hl5, hh5⟩, hk5⟩ := hw1
                  exact ⟨s5, -1022, by go_num, by omega, by omega, Lib.hid ⟨hd5, ho5, HDK5.out.trans hk5, by omega, by omega⟩⟩
                · go_wp2_with fail
                  go_meet
                  exact ⟨s4, e4 - 1, rfl, by omega, by omega, Lib.hid ⟨hdk4.out.1, HK4.out, HDK5.out, by omega, by omega⟩⟩
              case rest => as_aux_lemma =>
                obtain ⟨s5, E, rfl, hE0, hE1, ht⟩ := hcut
                obtain ⟨hd5, ho5, hk5, hl5, hh5⟩ := ht.out
                have hT5 := HF.out.dk hk5 hB hs
                have x0 := hT5.i0
                have x1 := hT5.i1
                have x2 := hT5.i2
                have hQ := HQ.out
                clear HQ y9 y0 w1 w2 ht  hdk4
                by_cases hov : 2047 ≤ E + 1023
                · obtain ⟨ng, y2⟩ : ∃ ng : Bool, wc.cell? ⟨b, 802, none⟩ = some (.bool ng) := by obtain ⟨_, hD, _⟩ := hd5; exact hD.ng
                  have HK5 := Lib.hid hk5
                  clear hd5 hT5 hk5 ho5
                  cases ng
                  · go_wp2_with fail
                    go_quiet (fail)
                    go_wp2_with fail
                    go_step3
                    subst hQ
                    refine ⟨_, rfl, ?_⟩
                    go_wp2
                    go_quiet (fail)
                    go_wp2
                    go_step3
                    go_wp2
                    go_quiet (fail)
                    go_wp2
                    rw [Exit.noGoto_ret]
                    go_returns
                    exact ⟨⟨_, _, rfl, (or_u64_bd _ _).1, (or_u64_bd _ _).2⟩, HK5.out.trans (by first | exact DK.refl _ _ | exact dk_drewN _ _ _ | exact two_drew _ _ _ _ | exact drews _ _ [_, _, _] | exact drews _ _ [_, _, _, _])⟩
                  · go_wp2_with fail
                    go_quiet (fail)
                    go_wp2_with fail
                    go_step3
                    subst hQ
                    refine ⟨_, rfl, ?_⟩
                    go_wp2
                    go_quiet (fail)
                    go_wp2
                    go_step3
                    go_wp2
                    go_quiet (fail)
                    go_wp2
                    go_quiet (fail)
                    go_wp2
                    rw [Exit.noGoto_ret]
                    go_returns
                    exact ⟨⟨_, _, rfl, (or_u64_bd _ _).1, (or_u64_bd _ _).2⟩, HK5.out.trans (by first | exact DK.refl _ _ | exact dk_drewN _ _ _ | exact two_drew _ _ _ _ | exact drews _ _ [_, _, _] | exact drews _ _ [_, _, _, _])⟩
                · have hsh := fun n => shift_left b 53 s5 (wc.drewN n) (hd5.drewN n) ho5 (by omega) (by omega) ⟨by omega, by omega⟩ (hT5.lc.drewN n)
                  have hsh2 : ∀ n, Calls Tryz.prog 131 #[.pointer (some ⟨b, 0, none⟩), .int .i64 53] (wc.drewN n) _ := hsh
                  have ho6 := left_ok 53 (by omega) s5 ho5
                  generalize left 53 s5 = s6 at *
                  have HSH := Lib.hid hsh2; have HK5 := Lib.hid hk5; have HO6 := Lib.hid ho6
                  clear hsh hsh2 hd5 ho5 hk5 ho6 hT5
                  go_wp2_with fail
                  go_quiet (fail)
                  go_upto_region 32 with (first | (go_at_call 131; (refine (HSH.out _).mono ?_); rintro e w1 ⟨rfl, hd6, hk6⟩) | fail)
                  have hk7 : DK b w w1 := HK5.out.trans ((dk_drewN b _ _).trans hk6)
                  have hT7 := HF.out.dk hk7 hB hs
                  have v0 := hT7.i0
                  have v1 := hT7.i1
                  have v2 := hT7.i2
                  obtain ⟨ng, y2⟩ : ∃ ng : Bool, w1.cell? ⟨b, 802, none⟩ = some (.bool ng) := by obtain ⟨_, hD, _⟩ := hd6; exact hD.ng
                  have hri := rint_any b s6.ds s6.dp w1 hd6 HO6.out.dg
                  have HRI := Lib.hid hri; have HK7 := Lib.hid hk7
                  clear hri hT7 hd6 hk6 x0 x1 x2 HSH
                  go_upto_region 33 with (first | (go_at_call 191; (refine (HRI.out).mono ?_); rintro e w2 ⟨⟨m, rfl, hm0, hm1⟩, rfl⟩) | fail)
                  by_cases hm : m = 9007199254740992
                  · subst hm
                    clear hm0 hm1
                    by_cases hov2 : 2047 ≤ E + 1 + 1023
                    · cases ng
                      · go_wp2_with fail
                        go_quiet (fail)
                        go_wp2_with fail
                        go_step3
                        subst hQ
                        refine ⟨_, rfl, ?_⟩
                        go_wp2
                        go_quiet (fail)
                        go_wp2
                        go_step3
                        go_wp2
                        go_quiet (fail)
                        go_wp2
                        rw [Exit.noGoto_ret]
                        go_returns
                        exact ⟨⟨_, _, rfl, (or_u64_bd _ _).1, (or_u64_bd _ _).2⟩, HK7.out.trans (by first | exact DK.refl _ _ | exact dk_drewN _ _ _ | exact two_drew _ _ _ _ | exact drews _ _ [_, _, _] | exact drews _ _ [_, _, _, _])⟩
                      · go_wp2_with fail
                        go_quiet (fail)
                        go_wp2_with fail
                        go_step3
                        subst hQ
                        refine ⟨_, rfl, ?_⟩
                        go_wp2
                        go_quiet (fail)
                        go_wp2
                        go_step3
                        go_wp2
                        go_quiet (fail)
                        go_wp2
                        go_quiet (fail)
                        go_wp2
                        rw [Exit.noGoto_ret]
                        go_returns
                        exact ⟨⟨_, _, rfl, (or_u64_bd _ _).1, (or_u64_bd _ _).2⟩, HK7.out.trans (by first | exact DK.refl _ _ | exact dk_drewN _ _ _ | exact two_drew _ _ _ _ | exact drews _ _ [_, _, _] | exact drews _ _ [_, _, _, _])⟩
                    · have hb : bits .and .u64 4503599627370496 4503599627370496 = 4503599627370496 := by decide
                      cases ng
                      · go_wp2_with fail
                        go_quiet (fail)
                        go_wp2_with fail
                        go_step3
                        subst hQ
                        refine ⟨_, rfl, ?_⟩
                        go_wp2
                        go_quiet (fail)
                        go_wp2
                        rw [Exit.noGoto_ret]
                        go_returns
                        exact ⟨⟨_, _, rfl, (or_u64_bd _ _).1, (or_u64_bd _ _).2⟩, HK7.out.trans (by first | exact DK.refl _ _ | exact dk_drewN _ _ _ | exact two_drew _ _ _ _ | exact drews _ _ [_, _, _] | exact drews _ _ [_, _, _, _])⟩
                      · go_wp2_with fail
                        go_quiet (fail)
                        go_wp2_with fail
                        go_step3
                        subst hQ
                        refine ⟨_, rfl, ?_⟩
                        go_wp2
                        go_quiet (fail)
                        go_wp2
                        go_quiet (fail)
                        go_wp2
                        rw [Exit.noGoto_ret]
                        go_returns
                        exact ⟨⟨_, _, rfl, (or_u64_bd _ _).1, (or_u64_bd _ _).2⟩, HK7.out.trans (by first | exact DK.refl _ _ | exact dk_drewN _ _ _ | exact two_drew _ _ _ _ | exact drews _ _ [_, _, _] | exact drews _ _ [_, _, _, _])⟩
                  · have hmb : (m == 9007199254740992) = false := beq_eq_false_iff_ne.2 hm
                    clear hm
                    cases hb : (bits .and .u64 m 4503599627370496 == 0)
                    · cases ng
                      · go_wp2_with fail
                        go_step3
                        subst hQ
                        refine ⟨_, rfl, ?_⟩
                        go_wp2
                        go_quiet (fail)
                        go_wp2
                        rw [Exit.noGoto_ret]
                        go_returns
                        exact ⟨⟨_, _, rfl, (or_u64_bd _ _).1, (or_u64_bd _ _).2⟩, HK7.out.trans (by first | exact DK.refl _ _ | exact dk_drewN _ _ _ | exact two_drew _ _ _ _ | exact drews _ _ [_, _, _] | exact drews _ _ [_, _, _, _])⟩
                      · go_wp2_with fail
                        go_step3
                        subst hQ
                        refine ⟨_, rfl, ?_⟩
                        go_wp2
                        go_quiet (fail)
                        go_wp2
                        go_quiet (fail)
                        go_wp2
                        rw [Exit.noGoto_ret]
                        go_returns
                        exact ⟨⟨_, _, rfl, (or_u64_bd _ _).1, (or_u64_bd _ _).2⟩, HK7.out.trans (by first | exact DK.refl _ _ | exact dk_drewN _ _ _ | exact two_drew _ _ _ _ | exact drews _ _ [_, _, _] | exact drews _ _ [_, _, _, _])⟩
                    · cases ng
                      · go_wp2_with fail
                        go_step3
                        subst hQ
                        refine ⟨_, rfl, ?_⟩
                        go_wp2
                        go_quiet (fail)
                        go_wp2
                        rw [Exit.noGoto_ret]
                        go_returns
                        exact ⟨⟨_, _, rfl, (or_u64_bd _ _).1, (or_u64_bd _ _).2⟩, HK7.out.trans (by first | exact DK.refl _ _ | exact dk_drewN _ _ _ | exact two_drew _ _ _ _ | exact drews _ _ [_, _, _] | exact drews _ _ [_, _, _, _])⟩
                      · go_wp2_with fail
                        go_step3
                        subst hQ
                        refine ⟨_, rfl, ?_⟩
                        go_wp2
                        go_quiet (fail)
                        go_wp2
                        go_quiet (fail)
                        go_wp2
                        rw [Exit.noGoto_ret]
                        go_returns
                        exact ⟨⟨_, _, rfl, (or_u64_bd _ _).1, (or_u64_bd _ _).2⟩, HK7.out.trans (by first | exact DK.refl _ _ | exact dk_drewN _ _ _ | exact two_drew _ _ _ _ | exact drews _ _ [_, _, _] | exact drews _ _ [_, _, _, _])⟩
end Go.Proofs.YtnccpddjdgndcaaGreatDoor.Dc
end

section
/- THE WALKS OF strconv.atof64 AND ParseFloat AT A NUMBER's TEXT. -/
namespace Go.Proofs.YtnccpddjdgndcaaGreatDoor.Pf
open Go.RowKit Go.Proofs.YtnccpddjdgndcaaGreatDoor.Fmt Go.Proofs.YtnccpddjdgndcaaGreatDoor.Nt Ieee
/-- "infinity", "nan" -/
abbrev tInf : ByteArray := ⟨#[105, 110, 102, 105, 110, 105, 116, 121]⟩
theorem gi0 (h : 0 < tInf.size) : (tInf[0]'h) = 105 := rfl
attribute [local go_sem] gi0
/-- the numbers' texts that are none, or have no end -/
abbrev tNaN : ByteArray := ⟨#[78, 97, 78]⟩
abbrev tnan : ByteArray := ⟨#[110, 97, 110]⟩
abbrev tInf3 : ByteArray := ⟨#[73, 110, 102]⟩
abbrev tPInf : ByteArray := ⟨#[43, 73, 110, 102]⟩
abbrev tNInf : ByteArray := ⟨#[45, 73, 110, 102]⟩
theorem gn0 (h : 0 < tNaN.size) : (tNaN[0]'h) = 78 := rfl
theorem gn1 (h : 1 < tNaN.size) : (tNaN[1]'h) = 97 := rfl
theorem gn2 (h : 2 < tNaN.size) : (tNaN[2]'h) = 78 := rfl
theorem gm0 (h : 0 < tnan.size) : (tnan[0]'h) = 110 := rfl
theorem gm1 (h : 1 < tnan.size) : (tnan[1]'h) = 97 := rfl
theorem gm2 (h : 2 < tnan.size) : (tnan[2]'h) = 110 := rfl
theorem gi1 (h : 1 < tInf.size) : (tInf[1]'h) = 110 := rfl
theorem gi2 (h : 2 < tInf.size) : (tInf[2]'h) = 102 := rfl
theorem gj0 (h : 0 < tInf3.size) : (tInf3[0]'h) = 73 := rfl
theorem gj1 (h : 1 < tInf3.size) : (tInf3[1]'h) = 110 := rfl
theorem gj2 (h : 2 < tInf3.size) : (tInf3[2]'h) = 102 := rfl
theorem gp0 (h : 0 < tPInf.size) : (tPInf[0]'h) = 43 := rfl
theorem gq0 (h : 0 < tNInf.size) : (tNInf[0]'h) = 45 := rfl
theorem xp : tPInf.extract 1 4 = tInf3 := rfl
theorem xq : tNInf.extract 1 4 = tInf3 := rfl
attribute [local go_sem] gi1 gi2 gn0 gn1 gn2 gm0 gm1 gm2 gj0 gj1 gj2 gp0 gq0 xp xq
theorem nan_call (w : World) : Calls Tryz.prog 189 #[] w fun e w' => e = .returned (.float .f64 9221120237041090561) ∧ w = w' := by
  go_enter Tryz.func189, Tryz.ntmps189
  go_wp2_with (first | (simp only [sfrom_call]) | fail)
  go_ret
  exact ⟨rfl, rfl⟩
theorem inf_pos (w : World) : Calls Tryz.prog 188 #[.int .i64 1] w fun e w' => e = .returned (.float .f64 9218868437227405312) ∧ w = w' := by
  go_enter Tryz.func188, Tryz.ntmps188
  go_wp2_with (first | (simp only [sfrom_call]) | fail)
  go_ret
  exact ⟨rfl, rfl⟩
theorem inf_neg (w : World) : Calls Tryz.prog 188 #[.int .i64 (-1)] w fun e w' => e = .returned (.float .f64 18442240474082181120) ∧ w = w' := by
  go_enter Tryz.func188, Tryz.ntmps188
  go_wp2_with (first | (simp only [sfrom_call]) | fail)
  go_ret
  exact ⟨rfl, rfl⟩
end Go.Proofs.YtnccpddjdgndcaaGreatDoor.Pf
end

section
/- THE WALK OF strconv.special: it answers, at any text. -/
namespace Go.Proofs.YtnccpddjdgndcaaGreatDoor.Pf
open Go.RowKit Go.Proofs.YtnccpddjdgndcaaGreatDoor.Fmt Go.Proofs.YtnccpddjdgndcaaGreatDoor.Nt Ieee
/-- a float, a count of at most as many, an answer -/
def AnsS (a : Nat) (e : Ending) : Prop := ∃ (f : Nat) (k : Int) (b : Bool), e = .returned (.tuple #[.float .f64 f, .int .i64 k, .bool b]) ∧ 0 ≤ k ∧ k ≤ (a : Int) ∧ f < 18446744073709551616
set_option maxRecDepth 20000 in
set_option maxHeartbeats 2000000 in
theorem special_any (s : ByteArray) (hs : s.size ≤ 100000) (w : World) :
    Calls Tryz.prog 147 #[.string s] w fun e w' => AnsS s.size e ∧ w = w' := by
  by_cases h0 : 0 < s.size
  rotate_left
  · have z0 : ((s.size : Int) == 0) = true := beq_iff_eq.2 (by omega)
    go_enter Tryz.func147, Tryz.ntmps147
    go_wp2_with fail
    go_returns
    exact ⟨⟨_, _, _, rfl, by decide, by omega, by decide⟩, rfl⟩
  have i0 : (0 : Int) < (s.size : Int) := by omega
  have z0 : ((s.size : Int) == 0) = false := beq_eq_false_iff_ne.2 (by omega)
  obtain ⟨x, hx⟩ : ∃ x : Int, ((s[0]'h0).toNat : Int) = x := ⟨_, rfl⟩
  by_cases hsg : x = 43 ∨ x = 45
  · obtain ⟨t, ht⟩ : ∃ t, s.extract 1 s.size = t := ⟨_, rfl⟩
    have htz : t.size + 1 = s.size := by rw [← ht, ByteArray.size_extract]; omega
    have hpx := fun W => prefix_any t tInf (by omega) W
    have HPX := Lib.hid hpx
    have i1 : (1 : Int) ≤ (s.size : Int) := by omega
    clear hpx
    rcases hsg with rfl | rfl
    · go_enter Tryz.func147, Tryz.ntmps147
      go_wp2_with (first | (go_at_call 187; refine (HPX.out _).mono ?_; rintro e w1 ⟨⟨k, rfl, hk⟩, rfl⟩) | (go_at_call 188; refine (inf_pos _).mono ?_; rintro e w2 ⟨rfl, rfl⟩) | (go_at_call 188; refine (inf_neg _).mono ?_; rintro e w2 ⟨rfl, rfl⟩) | (go_at_call 189; refine (nan_call _).mono ?_; rintro e w2 ⟨rfl, rfl⟩) | fail)
      all_goals (go_returns; exact ⟨⟨_, _, _, rfl, by omega, by omega, by decide⟩, rfl⟩)
    · go_enter Tryz.func147, Tryz.ntmps147
      go_wp2_with (first | (go_at_call 187; refine (HPX.out _).mono ?_; rintro e w1 ⟨⟨k, rfl, hk⟩, rfl⟩) | (go_at_call 188; refine (inf_pos _).mono ?_; rintro e w2 ⟨rfl, rfl⟩) | (go_at_call 188; refine (inf_neg _).mono ?_; rintro e w2 ⟨rfl, rfl⟩) | (go_at_call 189; refine (nan_call _).mono ?_; rintro e w2 ⟨rfl, rfl⟩) | fail)
      all_goals (go_returns; exact ⟨⟨_, _, _, rfl, by omega, by omega, by decide⟩, rfl⟩)
  · have n1 : ¬ x = 43 := fun h => hsg (.inl h)
    have n2 : ¬ x = 45 := fun h => hsg (.inr h)
    have b1 : (x == 43) = false := by simpa using n1
    have b2 : (x == 45) = false := by simpa using n2
    by_cases h3 : x = 105 ∨ x = 73
    · have hpx := fun W => prefix_any s tInf hs W
      have HPX := Lib.hid hpx
      clear hpx hsg n1 n2
      rcases h3 with rfl | rfl
      · go_enter Tryz.func147, Tryz.ntmps147
        go_wp2_with (first | (go_at_call 187; refine (HPX.out _).mono ?_; rintro e w1 ⟨⟨k, rfl, hk⟩, rfl⟩) | (go_at_call 188; refine (inf_pos _).mono ?_; rintro e w2 ⟨rfl, rfl⟩) | (go_at_call 188; refine (inf_neg _).mono ?_; rintro e w2 ⟨rfl, rfl⟩) | (go_at_call 189; refine (nan_call _).mono ?_; rintro e w2 ⟨rfl, rfl⟩) | fail)
        all_goals (go_returns; exact ⟨⟨_, _, _, rfl, by omega, by omega, by decide⟩, rfl⟩)
      · go_enter Tryz.func147, Tryz.ntmps147
        go_wp2_with (first | (go_at_call 187; refine (HPX.out _).mono ?_; rintro e w1 ⟨⟨k, rfl, hk⟩, rfl⟩) | (go_at_call 188; refine (inf_pos _).mono ?_; rintro e w2 ⟨rfl, rfl⟩) | (go_at_call 188; refine (inf_neg _).mono ?_; rintro e w2 ⟨rfl, rfl⟩) | (go_at_call 189; refine (nan_call _).mono ?_; rintro e w2 ⟨rfl, rfl⟩) | fail)
        all_goals (go_returns; exact ⟨⟨_, _, _, rfl, by omega, by omega, by decide⟩, rfl⟩)
    · have n3 : ¬ x = 105 := fun h => h3 (.inl h)
      have n4 : ¬ x = 73 := fun h => h3 (.inr h)
      have b3 : (x == 105) = false := by simpa using n3
      have b4 : (x == 73) = false := by simpa using n4
      have hpx := fun W => prefix_any s tnan hs W
      have HPX := Lib.hid hpx
      clear hpx hsg h3
      by_cases h5 : x = 110 ∨ x = 78
      · rcases h5 with rfl | rfl
        · go_enter Tryz.func147, Tryz.ntmps147
          go_wp2_with (first | (go_at_call 187; refine (HPX.out _).mono ?_; rintro e w1 ⟨⟨k, rfl, hk⟩, rfl⟩) | (go_at_call 188; refine (inf_pos _).mono ?_; rintro e w2 ⟨rfl, rfl⟩) | (go_at_call 188; refine (inf_neg _).mono ?_; rintro e w2 ⟨rfl, rfl⟩) | (go_at_call 189; refine (nan_call _).mono ?_; rintro e w2 ⟨rfl, rfl⟩) | fail)
          all_goals (go_returns; (try simp only [beq_iff_eq] at *); exact ⟨⟨_, _, _, rfl, by omega, by omega, by decide⟩, by first | rfl | trivial⟩)
        · go_enter Tryz.func147, Tryz.ntmps147
          go_wp2_with (first | (go_at_call 187; refine (HPX.out _).mono ?_; rintro e w1 ⟨⟨k, rfl, hk⟩, rfl⟩) | (go_at_call 188; refine (inf_pos _).mono ?_; rintro e w2 ⟨rfl, rfl⟩) | (go_at_call 188; refine (inf_neg _).mono ?_; rintro e w2 ⟨rfl, rfl⟩) | (go_at_call 189; refine (nan_call _).mono ?_; rintro e w2 ⟨rfl, rfl⟩) | fail)
          all_goals (go_returns; (try simp only [beq_iff_eq] at *); exact ⟨⟨_, _, _, rfl, by omega, by omega, by decide⟩, by first | rfl | trivial⟩)
      · have n5 : ¬ x = 110 := fun h => h5 (.inl h)
        have n6 : ¬ x = 78 := fun h => h5 (.inr h)
        have b5 : (x == 110) = false := by simpa using n5
        have b6 : (x == 78) = false := by simpa using n6
        go_enter Tryz.func147, Tryz.ntmps147
        go_wp2_with fail
        all_goals (go_returns; exact ⟨⟨_, _, _, rfl, by omega, by omega, by decide⟩, rfl⟩)
end Go.Proofs.YtnccpddjdgndcaaGreatDoor.Pf
end

section
/- THE WALK OF strconv.atof64: it answers, whatever the text be. -/
namespace Go.Proofs.YtnccpddjdgndcaaGreatDoor.Pf
open Go.RowKit Go.Proofs.YtnccpddjdgndcaaGreatDoor.Fmt
theorem dk_below {w w2 : World} (b : Nat) (h : Below w.heap.size w w2) : Dc.DK b w w2 := ⟨h.os, h.tape, h.output, h.size, fun p hp _ => h.block p hp⟩
/-- what atof64 reads of the program's own variables -/
structure AW (w : World) (B R o c : Nat) : Prop where
  pf : PfW w
  pw : Pow w
  gl : GlobT w
  tb : Dc.TbW w B R o c
  sz : B ≤ w.heap.size
theorem GlobT.lt {w : World} (h : GlobT w) : 10 < w.heap.size ∧ 9 < w.heap.size := by
  obtain ⟨⟨c, t, h1⟩, c2, t2, h2⟩ := h
  exact ⟨(Array.getElem?_eq_some_iff.1 h1).1, (Array.getElem?_eq_some_iff.1 h2).1⟩
theorem AW.below {w w2 : World} {B R o c : Nat} (h : AW w B R o c) (hb : Below w.heap.size w w2) : AW w2 B R o c :=
  ⟨h.pf.below hb (Nat.le_refl _), h.pw.below hb, h.gl.below hb h.gl.lt, h.tb.dk (dk_below B hb) (Nat.le_refl _) h.sz, Nat.le_trans h.sz hb.size⟩
def AnsA (e : Ending) : Prop := ∃ (y : Nat) (n : Int) (v : Value), e = .returned (.tuple #[.float .f64 y, .int .i64 n, v]) ∧ y < 18446744073709551616 ∧ ErrQ v
def AnsP (e : Ending) : Prop := ∃ (y : Nat) (v : Value), e = .returned (.tuple #[.float .f64 y, v]) ∧ y < 18446744073709551616 ∧ ErrQ v
theorem pf64_ans (d : Nat) (p sg : Int) (hd0 : 1 ≤ d) (hd : d < 18446744073709551616) (hp0 : -348 ≤ p) (hp1 : p ≤ 347) (hs : 0 ≤ sg ∧ sg < 18446744073709551616) (hsg : bits .or .u64 sg 0 = sg) (w : World) (hpw : Pow w) :
    Calls Tryz.prog 159 #[.int .u64 d, .int .i64 p, .int .u64 sg] w fun e' w' => AnsP e' ∧ Below w.heap.size w w' := by
  refine (pf64_any d p sg hd0 hd hp0 hp1 hsg w hpw).mono ?_
  rintro e w' ⟨rfl, hb⟩
  refine ⟨⟨_, _, rfl, pfV_bd d p sg hs.1 hs.2, ?_⟩, hb⟩
  unfold errV
  split
  · exact .inr (.inl rfl)
  · exact .inl rfl
theorem pf64_suc (d : Nat) (p sg : Int) (hd : d + 1 < 18446744073709551616) (hp0 : -348 ≤ p) (hp1 : p ≤ 347) (hs : 0 ≤ sg ∧ sg < 18446744073709551616) (hsg : bits .or .u64 sg 0 = sg) (w : World) (hpw : Pow w) :
    Calls Tryz.prog 159 #[.int .u64 ((d : Int) + 1), .int .i64 p, .int .u64 sg] w fun e' w' => AnsP e' ∧ Below w.heap.size w w' := by
  have h := pf64_ans (d + 1) p sg (Nat.le_add_left _ _) hd hp0 hp1 hs hsg w hpw
  rw [Int.natCast_add, Int.natCast_one] at h
  exact h
set_option maxRecDepth 200000 in
theorem zc_is : Tryz.zeroCells160 = Array.replicate 800 (.int .u8 0) ++ #[.int .i64 0, .int .i64 0, .bool false, .bool false] := by kernel_rfl
theorem dk_alloc (w : World) (o : Obj) : Dc.DK w.heap.size w (w.alloc o) := dk_below _ ((Below.refl _ w).alloc (Nat.le_refl _) o)
theorem dat_new (w : World) : Dc.DAt (w.alloc (.cells Tryz.zeroCells160 160)) w.heap.size [] 0 := by
  have hk : (w.alloc (.cells Tryz.zeroCells160 160)).heap[w.heap.size]? = some (.cells Tryz.zeroCells160 160 (0, 0)) := heap_alloc_new w _
  have hc : ∀ j, (w.alloc (.cells Tryz.zeroCells160 160)).cell? ⟨w.heap.size, j, none⟩ = (Array.replicate 800 (Value.int .u8 0) ++ #[.int .i64 0, .int .i64 0, .bool false, .bool false])[j]? := fun j => (cell_of_row _ _ j _ _ (0, 0) hk).trans (congrArg (fun a : Array Value => a[j]?) zc_is)
  refine ⟨fun _ => 0, ⟨fun i hi => ?_, ?_, ?_, ⟨false, ?_⟩, ⟨false, ?_⟩, fun o => ?_⟩, fun i hi => absurd hi (Nat.not_lt_zero _), Nat.zero_le _⟩
  · rw [hc, Array.getElem?_append_left (by simpa using hi), Array.getElem?_replicate, if_pos hi]; rfl
  · rw [hc, Array.getElem?_append_right (by simp)]; simp
  · rw [hc, Array.getElem?_append_right (by simp)]; simp
  · rw [hc, Array.getElem?_append_right (by simp)]; simp
  · rw [hc, Array.getElem?_append_right (by simp)]; simp
  · unfold World.frozen?
    rw [hk]
    simp
theorem fb_all (b : Nat) (ds : List Nat) (dp : Int) (w : World) (hd : Dc.DAt w b ds dp) (hg : Dc.Dg ds) (hh : ds = [] ∨ Dc.Hd ds) (B R o c : Nat) (hF : Dc.TbW w B R o c) (hB : B ≤ b) (hs : B ≤ w.heap.size) :
    Calls Tryz.prog 155 #[.pointer (some ⟨b, 0, none⟩), (.pointer (some ⟨10, 0, none⟩))] w fun e w' => Dc.AnsF e ∧ Dc.DK b w w' := by
  rcases hh with rfl | hh
  · exact Dc.fb_none b dp w hd B R o c hF
  · have hok : Dc.Ok ⟨ds, dp, false⟩ := ⟨hg, hh, by obtain ⟨_, _, _, h⟩ := hd; exact h⟩
    by_cases h1 : 310 < dp ∨ dp < -330
    · exact Dc.fb_far b ⟨ds, dp, false⟩ w hd hok B R o c hF h1
    · exact Dc.fb_some b ⟨ds, dp, false⟩ w hd hok B R o c hF hB hs (by show -330 ≤ dp; omega) (by show dp ≤ 310; omega)
theorem d1_of {d : Nat} (h : ((d : Int) == 0) = false) : 1 ≤ d := by have := beq_eq_false_iff_ne.1 h; omega
set_option maxRecDepth 20000 in
set_option maxHeartbeats 8000000 in
theorem atof_any (s : ByteArray) (hs : s.size ≤ 100000) (hrf : ∀ W, Calls Tryz.prog 148 #[.string s] W fun e w' => RfA s e ∧ Below W.heap.size W w') (w : World) (B R o c : Nat) (hA : AW w B R o c) :
    Calls Tryz.prog 111 #[.string s] w fun e w' => AnsA e ∧ Below w.heap.size w w' := by
  have HRF := Lib.hid hrf; have HA := Lib.hid hA
  clear hrf hA
  go_enter Tryz.func111, Tryz.ntmps111
  go_upto_if 64 with (first | (go_at_call 147; refine (special_any s hs _).mono ?_; rintro e w1 ⟨⟨vf, vk, vb, rfl, hk0, hk1, hvf⟩, rfl⟩) | (go_at_call 148; refine (HRF.out _).mono ?_; rintro e w1 ⟨⟨d, x, ng, tr, hex, n, ok, rfl, hn, hd, hx0, hx1, hdd⟩, hb1⟩; have hA1 := HA.out.below hb1; have hopt := hA1.pf.opt) | (go_at_call 149; refine (hex_any _ d x ng tr hd _ (hA1.tb.drewN 0).i0 (hA1.tb.drewN 0).i1 (hA1.tb.drewN 0).i2 hA1.gl).mono ?_; rintro e w2 ⟨⟨y, v, rfl, hy, hv⟩, m, rfl⟩) | fail)
  · go_returns
    exact ⟨⟨_, _, _, rfl, hvf, .inl rfl⟩, Below.refl _ _⟩
  · go_returns
    exact ⟨⟨_, _, _, rfl, by decide, .inr (.inr rfl)⟩, hb1⟩
  · go_returns
    exact ⟨⟨_, _, _, rfl, hy, hv⟩, hb1.trans (Dc.dk_drewN w1.heap.size m _ |>.low (Nat.le_refl _) (Nat.le_refl _) |>.mono hb1.size)⟩
  have hok : ok = true := by simpa using ‹(!ok) = false›
  have hd2 : d + 1 < 18446744073709551616 := hdd hok ‹hex = false›
  clear hdd
  obtain ⟨sg, hsg⟩ : ∃ sg : Int, (if ng then (9223372036854775808 : Int) else 0) = sg := ⟨_, rfl⟩
  have hor : bits .or .u64 sg 0 = sg := by subst hsg; cases ng <;> decide
  have hsb : 0 ≤ sg ∧ sg < 18446744073709551616 := by subst hsg; cases ng <;> decide
  cases ng
  all_goals
    simp only [Bool.false_eq_true, if_false, if_true] at hsg
    subst hsg
    have HOR := Lib.hid hor
    go_upto_if 75 with (first | (go_at_call 156; refine (bool2_any _ _).mono ?_; rintro e w2 ⟨rfl, rfl⟩) | (simp only [sfrom_call]) | fail)
    · go_returns
      exact ⟨⟨_, _, _, rfl, by decide, .inl rfl⟩, hb1⟩
    have hd0 := d1_of ‹((d : Int) == 0) = false›
    have HH := Lib.hid hsb
    go_upto_if 88 with (first | (simp only [sfrom_call]) | fail)
    · go_returns
      exact ⟨⟨_, _, _, rfl, by decide, .inr (.inl rfl)⟩, hb1⟩
    · go_returns
      exact ⟨⟨_, _, _, rfl, by decide, .inl rfl⟩, hb1⟩
    go_upto_region 20 with (first | (go_at_call 158; refine (exact_any d x _ hd0 hd (by omega) (by omega) _ hA1.pf).mono ?_; rintro e w2 ⟨⟨fx, fok, rfl, hfx, _⟩, rfl⟩) | fail)
    · obtain rfl : tr = false := by simpa using ‹(!tr) = true›
      cases fok
      · go_wp2_with (first | (go_at_call 159; refine (pf64_ans d x _ hd0 hd (by omega) (by omega) HH.out HOR.out _ hA1.pw).mono ?_; rintro e w3 ⟨⟨y3, v3, rfl, hy3, hv3⟩, hb3⟩; have hp3 := hA1.pw.below hb3) | fail)
        go_returns
        exact ⟨⟨_, _, _, rfl, hy3, hv3⟩, Val.btrans hb1 hb3⟩
      · go_wp2_with fail
        go_returns
        exact ⟨⟨_, _, _, rfl, hfx, .inl rfl⟩, hb1⟩
    obtain rfl : tr = true := by simpa using ‹(!tr) = false›
    obtain rfl := hok
    go_upto_region 23 with (first | (go_at_call 159; refine (pf64_ans d x _ hd0 hd (by omega) (by omega) HH.out HOR.out _ hA1.pw).mono ?_; rintro e w3 ⟨⟨y3, v3, rfl, hy3, hv3⟩, hb3⟩; have hp3 := hA1.pw.below hb3) | fail)
    go_upto_region 26 with (go_at_call 159; refine (pf64_suc d x _ hd2 (by omega) (by omega) HH.out HOR.out _ hp3).mono ?_; rintro e w4 ⟨⟨y4, v4, rfl, hy4, hv4⟩, hb4⟩)
    go_upto_region 28 with fail
    · go_returns
      exact ⟨⟨_, _, _, rfl, hy3, hv3⟩, Val.btrans hb1 (Val.btrans hb3 hb4)⟩
    have hA4 := (hA1.below hb3).below hb4
    have hb := Val.btrans hb1 (Val.btrans hb3 hb4)
    have HA4 := Lib.hid hA4; have HB := Lib.hid hb
    clear hA4 hb hA1 hp3 hb3 hb4 hb1 hopt hsb hor
    go_upto_region 31 with (go_at_call 154; refine (Dc.set_any _ _ _ (by rw [ByteArray.size_extract]; omega) (dat_new _)).mono ?_; rintro e w5 ⟨⟨ok2, rfl⟩, ds, dp, hS⟩; have hk5 := (dk_alloc w4 _).trans hS.dk; have hT5 := HA4.out.tb.dk hk5 HA4.out.sz HA4.out.sz)
    · go_returns
      exact ⟨⟨_, _, _, rfl, by decide, .inr (.inr rfl)⟩, Val.btrans HB.out (hk5.low (Nat.le_refl _) (Nat.le_refl _))⟩
    have HT := Lib.hid hT5
    clear hT5
    go_wp2_with (first | (go_at_call 155; refine (fb_all _ ds dp _ hS.at_ hS.dg hS.hd B R o c HT.out HA4.out.sz (Nat.le_trans HA4.out.sz hk5.size)).mono ?_; rintro e w6 ⟨⟨u, ov, rfl, hu0, hu1⟩, hk6⟩) | (simp only [sfrom_call]) | fail)
    all_goals
      go_returns
      first
        | exact ⟨⟨_, _, _, rfl, nat_bd _ ⟨hu0, hu1⟩, .inr (.inl rfl)⟩, Val.btrans HB.out ((hk5.trans hk6).low (Nat.le_refl _) (Nat.le_refl _))⟩
        | exact ⟨⟨_, _, _, rfl, nat_bd _ ⟨hu0, hu1⟩, .inl rfl⟩, Val.btrans HB.out ((hk5.trans hk6).low (Nat.le_refl _) (Nat.le_refl _))⟩
end Go.Proofs.YtnccpddjdgndcaaGreatDoor.Pf
end

section
/- THE WALK OF strconv.readFloat AT ANY TEXT. -/
namespace Go.Proofs.YtnccpddjdgndcaaGreatDoor.Pf
open Go.RowKit
set_option maxRecDepth 20000 in
set_option maxHeartbeats 2000000 in
theorem rf_any (s : ByteArray) (hs : s.size ≤ 100000) (w : World) : Calls Tryz.prog 148 #[.string s] w fun e w' => RfA s e ∧ Below w.heap.size w w' := by
  by_cases h0 : s.size = 0
  · have z : ¬ (0 : Int) < (s.size : Int) := by omega
    have z2 : (s.size : Int) = 0 := by omega
    have z3 : (s.size : Int) ≤ 0 := by omega
    go_enter Tryz.func148, Tryz.ntmps148
    go_wp2
    go_step3
    go_upto_region 3 with fail
    rw [Exit.noGoto_ret]
    refine bodyPost_ret (v := .tuple #[.int .u64 0, .int .i64 0, .bool false, .bool false, .bool false, .int .i64 0, .bool false]) (by simp [results, Tryz.results148, go_sem]; try rfl) rfl ?_
    exact ⟨⟨0, 0, false, false, false, 0, false, rfl, by omega, by decide, by decide, by decide, fun h => absurd h (by decide)⟩, Below.refl _ _⟩
  · obtain ⟨⟨ng, j⟩, hj⟩ : ∃ q, sgP s.data.toList = q := ⟨_, rfl⟩
    cases hx : hexP s.data.toList j
    · refine (rf_dec s w ng j hs h0 hj hx).mono ?_
      rintro e w' ⟨h, hb⟩
      exact ⟨rfA_of s ng false _ e h, hb⟩
    · refine (rf_hex s w ng j hs h0 hj hx).mono ?_
      rintro e w' ⟨h, hb⟩
      exact ⟨rfA_of s ng true _ e h, hb⟩
end Go.Proofs.YtnccpddjdgndcaaGreatDoor.Pf
end

section
/- More of the shelf's contracts, laid by the kit's tool at this seat's dump, its remarks struck. -/
namespace Go.Proofs
open Go.Shelf
def Tryz.lays137_ren : Go.Shelf.Ren := ⟨fun | 137 => 107 | 217 => 135 | 266 => 101 | n => n, fun | 9 => 9 | 5 => 5 | 3 => 3 | n => n, fun | n => n⟩
theorem Tryz.lays137 : Go.Proofs.Lays.n137 Tryz.prog Tryz.lays137_ren := {
  mixed := by kernel_rfl
  f137 := Tryz.func107.trans (congrArg some (by kernel_rfl))
  f217 := Tryz.func135.trans (congrArg some (by kernel_rfl))
  f266 := Tryz.func101.trans (congrArg some (by kernel_rfl))
  t3 := Tryz.underlying3
  a3 := Tryz.isAgg3
  z3 := Tryz.sizeOf3
  v3 := Tryz.zeroValue3
  t5 := Tryz.underlying5
  a5 := Tryz.isAgg5
  z5 := Tryz.sizeOf5
  v5 := Tryz.zeroValue5
  t9 := Tryz.underlying9
  a9 := Tryz.isAgg9
  z9 := Tryz.sizeOf9
  v9 := Tryz.zeroValue9 }
open Go.RowKit in
theorem Tryz.strings_IndexByte (s : ByteArray) (c : Int) (w : World) :
    Calls Tryz.prog 107 #[.string s, .int .u8 c] w fun e w' => e = .returned (.int .i64 (Lib.indexByte s.data.toList c.toNat.toUInt8)) ∧ w' = w := Any.strings_IndexByte Tryz.lays137 s c w
def Tryz.laysC245_ren : Go.Shelf.Ren := ⟨fun | 245 => 49 | 279 => 80 | 280 => 81 | 281 => 82 | 282 => 83 | 316 => 112 | 171 => 114 | 205 => 113 | 243 => 160 | 246 => 53 | 283 => 87 | 284 => 88 | 285 => 89 | 286 => 90 | 129 => 118 | 317 => 117 | 318 => 119 | 319 => 120 | 320 => 121 | 337 => 161 | 338 => 162 | n => n, fun | 9 => 9 | 3 => 3 | 75 => 52 | 167 => 106 | 4 => 4 | 168 => 107 | 210 => 140 | 37 => 95 | 0 => 0 | 127 => 191 | 145 => 194 | 143 => 192 | 2 => 2 | 171 => 114 | 53 => 80 | 5 => 5 | 173 => 117 | 212 => 144 | 51 => 134 | 20 => 20 | 213 => 145 | 46 => 113 | 232 => 151 | 233 => 219 | 80 => 235 | n => n, fun | 15 => 1 | 16 => 5 | 17 => 6 | 18 => 14 | 19 => 15 | n => n⟩
theorem Tryz.laysC245 : Go.Proofs.LaysC.n245 Tryz.prog Tryz.laysC245_ren := {
  mixed := by kernel_rfl
  f129 := Tryz.func118.trans (congrArg some (by kernel_rfl))
  f171 := Tryz.func114.trans (congrArg some (by kernel_rfl))
  f205 := Tryz.func113.trans (congrArg some (by kernel_rfl))
  f243 := Tryz.func160.trans (congrArg some (by kernel_rfl))
  f245 := Tryz.func49.trans (congrArg some (by kernel_rfl))
  f246 := Tryz.func53.trans (congrArg some (by kernel_rfl))
  f279 := Tryz.func80.trans (congrArg some (by kernel_rfl))
  f280 := Tryz.func81.trans (congrArg some (by kernel_rfl))
  f281 := Tryz.func82.trans (congrArg some (by kernel_rfl))
  f282 := Tryz.func83.trans (congrArg some (by kernel_rfl))
  f283 := Tryz.func87.trans (congrArg some (by kernel_rfl))
  f284 := Tryz.func88.trans (congrArg some (by kernel_rfl))
  f285 := Tryz.func89.trans (congrArg some (by kernel_rfl))
  f286 := Tryz.func90.trans (congrArg some (by kernel_rfl))
  f316 := Tryz.func112.trans (congrArg some (by kernel_rfl))
  f317 := Tryz.func117.trans (congrArg some (by kernel_rfl))
  f318 := Tryz.func119.trans (congrArg some (by kernel_rfl))
  f319 := Tryz.func120.trans (congrArg some (by kernel_rfl))
  f320 := Tryz.func121.trans (congrArg some (by kernel_rfl))
  f337 := Tryz.func161.trans (congrArg some (by kernel_rfl))
  f338 := Tryz.func162.trans (congrArg some (by kernel_rfl))
  t0 := Tryz.underlying0
  a0 := Tryz.isAgg0
  z0 := Tryz.sizeOf0
  v0 := Tryz.zeroValue0
  t2 := Tryz.underlying2
  a2 := Tryz.isAgg2
  z2 := Tryz.sizeOf2
  v2 := Tryz.zeroValue2
  t3 := Tryz.underlying3
  a3 := Tryz.isAgg3
  z3 := Tryz.sizeOf3
  v3 := Tryz.zeroValue3
  t4 := Tryz.underlying4
  a4 := Tryz.isAgg4
  z4 := Tryz.sizeOf4
  v4 := Tryz.zeroValue4
  t5 := Tryz.underlying5
  a5 := Tryz.isAgg5
  z5 := Tryz.sizeOf5
  v5 := Tryz.zeroValue5
  t9 := Tryz.underlying9
  a9 := Tryz.isAgg9
  z9 := Tryz.sizeOf9
  v9 := Tryz.zeroValue9
  t20 := Tryz.underlying20
  a20 := Tryz.isAgg20
  z20 := Tryz.sizeOf20
  v20 := Tryz.zeroValue20
  t37 := Tryz.underlying95
  a37 := Tryz.isAgg95
  z37 := Tryz.sizeOf95
  v37 := Tryz.zeroValue95
  t46 := Tryz.underlying113
  a46 := Tryz.isAgg113
  z46 := Tryz.sizeOf113
  v46 := Tryz.zeroValue113
  t51 := Tryz.underlying134
  a51 := Tryz.isAgg134
  z51 := Tryz.sizeOf134
  v51 := Tryz.zeroValue134
  t53 := Tryz.underlying80
  a53 := Tryz.isAgg80
  z53 := Tryz.sizeOf80
  v53 := Tryz.zeroValue80
  t75 := Tryz.underlying52
  a75 := Tryz.isAgg52
  z75 := Tryz.sizeOf52
  v75 := Tryz.zeroValue52
  t127 := Tryz.underlying191
  a127 := Tryz.isAgg191
  z127 := Tryz.sizeOf191
  v127 := Tryz.zeroValue191
  t143 := Tryz.underlying192
  a143 := Tryz.isAgg192
  z143 := Tryz.sizeOf192
  v143 := Tryz.zeroValue192
  t145 := Tryz.underlying194
  a145 := Tryz.isAgg194
  z145 := Tryz.sizeOf194
  v145 := Tryz.zeroValue194
  t167 := Tryz.underlying106
  a167 := Tryz.isAgg106
  z167 := Tryz.sizeOf106
  v167 := Tryz.zeroValue106
  t168 := Tryz.underlying107
  a168 := Tryz.isAgg107
  z168 := Tryz.sizeOf107
  v168 := Tryz.zeroValue107
  t171 := Tryz.underlying114
  a171 := Tryz.isAgg114
  z171 := Tryz.sizeOf114
  v171 := Tryz.zeroValue114
  t173 := Tryz.underlying117
  a173 := Tryz.isAgg117
  z173 := Tryz.sizeOf117
  v173 := Tryz.zeroValue117
  t210 := Tryz.underlying140
  a210 := Tryz.isAgg140
  z210 := Tryz.sizeOf140
  v210 := Tryz.zeroValue140
  t212 := Tryz.underlying144
  a212 := Tryz.isAgg144
  z212 := Tryz.sizeOf144
  v212 := Tryz.zeroValue144
  t213 := Tryz.underlying145
  a213 := Tryz.isAgg145
  z213 := Tryz.sizeOf145
  t232 := Tryz.underlying151
  a232 := Tryz.isAgg151
  z232 := Tryz.sizeOf151
  v232 := Tryz.zeroValue151
  t233 := Tryz.underlying219
  a233 := Tryz.isAgg219
  z233 := Tryz.sizeOf219
  v233 := Tryz.zeroValue219
  g15 := by kernel_rfl
  g16 := by kernel_rfl
  g17 := by kernel_rfl
  g18 := by kernel_rfl
  g19 := by kernel_rfl
  t80 := Tryz.underlying235
  a80 := Tryz.isAgg235
  z80 := Tryz.sizeOf235
  v80 := Tryz.zeroValue235
  i0 := by kernel_rfl
  i2 := by kernel_rfl
  i3 := by kernel_rfl
  i4 := by kernel_rfl
  i5 := by kernel_rfl
  i9 := by kernel_rfl
  i20 := by kernel_rfl
  i37 := by kernel_rfl
  i46 := by kernel_rfl
  i51 := by kernel_rfl
  i53 := by kernel_rfl
  i75 := by kernel_rfl
  i80 := by kernel_rfl
  i127 := by kernel_rfl
  i143 := by kernel_rfl
  i145 := by kernel_rfl
  i167 := by kernel_rfl
  i168 := by kernel_rfl
  i171 := by kernel_rfl
  i173 := by kernel_rfl
  i210 := by kernel_rfl
  i212 := by kernel_rfl
  i232 := by kernel_rfl
  i233 := by kernel_rfl
  m15 := by kernel_rfl
  m16 := by kernel_rfl
  m17 := by kernel_rfl
  m18 := by kernel_rfl
  m19 := by kernel_rfl
  c0 := by kernel_rfl
  c2 := by kernel_rfl
  c3 := by kernel_rfl
  c4 := by kernel_rfl
  c5 := by kernel_rfl
  c9 := by kernel_rfl
  c20 := by kernel_rfl
  c37 := by kernel_rfl
  c46 := by kernel_rfl
  c51 := by kernel_rfl
  c53 := by kernel_rfl
  c75 := by kernel_rfl
  c80 := by kernel_rfl
  c127 := by kernel_rfl
  c143 := by kernel_rfl
  c145 := by kernel_rfl
  c167 := by kernel_rfl
  c168 := by kernel_rfl
  c171 := by kernel_rfl
  c173 := by kernel_rfl
  c210 := by kernel_rfl
  c212 := by kernel_rfl
  c213 := by kernel_rfl
  c232 := by kernel_rfl
  c233 := by kernel_rfl }
open Go.RowKit in
theorem Tryz.strconv_toError_syntax (fn s : ByteArray) (base bits : Int) (ev : Value) (w : World) (hlim : s.size ≤ 281474976710656) (hv : w.cell? ⟨1, 0, none⟩ = some ev) (hev : ev = .nilIface ∨ ∃ te pe, ev = .iface te pe) :
    Calls Tryz.prog 49 #[.string fn, .string s, .int .i64 base, .int .i64 bits, .iface 106 (.int .i64 2)] w fun e w' => ∃ N, e = .returned (.iface 107 (.pointer (some ⟨N, 0, none⟩))) ∧ w.heap.size ≤ N ∧ w'.heap[N]? = some (.cells #[.string fn, .string s, ev] 140 (0, 0)) ∧ Below w.heap.size w w' := Any.strconv_toError_syntax Tryz.laysC245 fn s base bits ev w hlim hv hev
open Go.RowKit in
theorem Tryz.strconv_toError_range (fn s : ByteArray) (base bits : Int) (ev : Value) (w : World) (hlim : s.size ≤ 281474976710656) (hv : w.cell? ⟨5, 0, none⟩ = some ev) (hev : ev = .nilIface ∨ ∃ te pe, ev = .iface te pe) :
    Calls Tryz.prog 49 #[.string fn, .string s, .int .i64 base, .int .i64 bits, .iface 106 (.int .i64 1)] w fun e w' => ∃ N, e = .returned (.iface 107 (.pointer (some ⟨N, 0, none⟩))) ∧ w.heap.size ≤ N ∧ w'.heap[N]? = some (.cells #[.string fn, .string s, ev] 140 (0, 0)) ∧ Below w.heap.size w w' := Any.strconv_toError_range Tryz.laysC245 fn s base bits ev w hlim hv hev
open Go.RowKit in
theorem Tryz.strconv_ParseInt_10_at64_syntax (s : ByteArray) (hlim : s.size ≤ 281474976710656) (h : Lib.parseIntB 64 s.data.toList = Lib.NumEnd.syntax) (ev : Value) (w : World) (hv : w.cell? ⟨1, 0, none⟩ = some ev) (hev : ev = .nilIface ∨ ∃ te pe, ev = .iface te pe) :
    Calls Tryz.prog 33 #[.string s, .int .i64 10, .int .i64 64] w fun e w' => ∃ N, e = .returned (.tuple #[.int .i64 (0), .iface 107 (.pointer (some ⟨N, 0, none⟩))]) ∧ w.heap.size ≤ N ∧ w'.heap[N]? = some (.cells #[.string ⟨#[80, 97, 114, 115, 101, 73, 110, 116]⟩, .string s, ev] 140 (0, 0)) ∧ Below w.heap.size w w' := Any.strconv_ParseInt_10_at64_syntax Tryz.laysC174 s hlim h ev w hv hev
open Go.RowKit in
theorem Tryz.strconv_ParseInt_10_at64_range (s : ByteArray) (hlim : s.size ≤ 281474976710656) (h : Lib.parseIntB 64 s.data.toList = .range) (ev : Value) (w : World) (hv : w.cell? ⟨5, 0, none⟩ = some ev) (hev : ev = .nilIface ∨ ∃ te pe, ev = .iface te pe) :
    Calls Tryz.prog 33 #[.string s, .int .i64 10, .int .i64 64] w fun e w' => ∃ N, e = .returned (.tuple #[.int .i64 (Lib.intSat 64 s.data.toList), .iface 107 (.pointer (some ⟨N, 0, none⟩))]) ∧ w.heap.size ≤ N ∧ w'.heap[N]? = some (.cells #[.string ⟨#[80, 97, 114, 115, 101, 73, 110, 116]⟩, .string s, ev] 140 (0, 0)) ∧ Below w.heap.size w w' := Any.strconv_ParseInt_10_at64_range Tryz.laysC174 s hlim h ev w hv hev
def Tryz.lays152_ren : Go.Shelf.Ren := ⟨fun | 152 => 76 | 137 => 107 | 119 => 105 | 224 => 108 | 225 => 109 | 217 => 135 | 266 => 101 | n => n, fun | 9 => 9 | 21 => 21 | 3 => 3 | 4 => 4 | 5 => 5 | 0 => 0 | 46 => 113 | n => n, fun | n => n⟩
theorem Tryz.lays152 : Go.Proofs.Lays.n152 Tryz.prog Tryz.lays152_ren := {
  mixed := by kernel_rfl
  f119 := Tryz.func105.trans (congrArg some (by kernel_rfl))
  f137 := Tryz.func107.trans (congrArg some (by kernel_rfl))
  f152 := Tryz.func76.trans (congrArg some (by kernel_rfl))
  f217 := Tryz.func135.trans (congrArg some (by kernel_rfl))
  f224 := Tryz.func108.trans (congrArg some (by kernel_rfl))
  f225 := Tryz.func109.trans (congrArg some (by kernel_rfl))
  f266 := Tryz.func101.trans (congrArg some (by kernel_rfl))
  t0 := Tryz.underlying0
  a0 := Tryz.isAgg0
  z0 := Tryz.sizeOf0
  v0 := Tryz.zeroValue0
  t3 := Tryz.underlying3
  a3 := Tryz.isAgg3
  z3 := Tryz.sizeOf3
  v3 := Tryz.zeroValue3
  t4 := Tryz.underlying4
  a4 := Tryz.isAgg4
  z4 := Tryz.sizeOf4
  v4 := Tryz.zeroValue4
  t5 := Tryz.underlying5
  a5 := Tryz.isAgg5
  z5 := Tryz.sizeOf5
  v5 := Tryz.zeroValue5
  t9 := Tryz.underlying9
  a9 := Tryz.isAgg9
  z9 := Tryz.sizeOf9
  v9 := Tryz.zeroValue9
  t21 := Tryz.underlying21
  a21 := Tryz.isAgg21
  z21 := Tryz.sizeOf21
  v21 := Tryz.zeroValue21
  t46 := Tryz.underlying113
  a46 := Tryz.isAgg113
  z46 := Tryz.sizeOf113
  v46 := Tryz.zeroValue113 }
open Go.RowKit Go.Lib in
theorem Tryz.strings_IndexRune_ascii (s : ByteArray) (r : Int) (w : World) (h0 : 0 ≤ r) (h1 : r < 128) :
    Calls Tryz.prog 76 #[.string s, .int .i32 r] w fun e w' => e = .returned (.int .i64 (Lib.indexByte s.data.toList r.toNat.toUInt8)) ∧ w' = w := Any.strings_IndexRune_ascii Tryz.lays152 s r w h0 h1
def Tryz.lays226_ren : Go.Shelf.Ren := ⟨fun | 226 => 77 | n => n, fun | 3 => 3 | 4 => 4 | n => n, fun | n => n⟩
theorem Tryz.lays226 : Go.Proofs.Lays.n226 Tryz.prog Tryz.lays226_ren := {
  mixed := by kernel_rfl
  f226 := Tryz.func77.trans (congrArg some (by kernel_rfl))
  t3 := Tryz.underlying3
  a3 := Tryz.isAgg3
  z3 := Tryz.sizeOf3
  v3 := Tryz.zeroValue3
  t4 := Tryz.underlying4
  a4 := Tryz.isAgg4
  z4 := Tryz.sizeOf4
  v4 := Tryz.zeroValue4 }
open Go.RowKit Go.Lib in
theorem Tryz.strings_shouldUseASCIISet (n : Int) (w : World) :
    Calls Tryz.prog 77 #[.int .i64 n] w fun e w' => e = .returned (.bool (decide (8 < n))) ∧ w' = w := Any.strings_shouldUseASCIISet Tryz.lays226 n w
def Tryz.lays153_ren : Go.Shelf.Ren := ⟨fun | 153 => 47 | 152 => 76 | 226 => 77 | 227 => 59 | 228 => 78 | 137 => 107 | 119 => 105 | 224 => 108 | 225 => 109 | 217 => 135 | 266 => 101 | n => n, fun | 9 => 9 | 3 => 3 | 4 => 4 | 5 => 5 | 21 => 21 | 117 => 86 | 116 => 85 | 0 => 0 | 46 => 113 | 124 => 89 | n => n, fun | n => n⟩
theorem Tryz.lays153 : Go.Proofs.Lays.n153 Tryz.prog Tryz.lays153_ren := {
  mixed := by kernel_rfl
  f119 := Tryz.func105.trans (congrArg some (by kernel_rfl))
  f137 := Tryz.func107.trans (congrArg some (by kernel_rfl))
  f152 := Tryz.func76.trans (congrArg some (by kernel_rfl))
  f153 := Tryz.func47.trans (congrArg some (by kernel_rfl))
  f217 := Tryz.func135.trans (congrArg some (by kernel_rfl))
  f224 := Tryz.func108.trans (congrArg some (by kernel_rfl))
  f225 := Tryz.func109.trans (congrArg some (by kernel_rfl))
  f226 := Tryz.func77.trans (congrArg some (by kernel_rfl))
  f227 := Tryz.func59.trans (congrArg some (by kernel_rfl))
  f228 := Tryz.func78.trans (congrArg some (by kernel_rfl))
  f266 := Tryz.func101.trans (congrArg some (by kernel_rfl))
  t0 := Tryz.underlying0
  a0 := Tryz.isAgg0
  z0 := Tryz.sizeOf0
  v0 := Tryz.zeroValue0
  t3 := Tryz.underlying3
  a3 := Tryz.isAgg3
  z3 := Tryz.sizeOf3
  v3 := Tryz.zeroValue3
  t4 := Tryz.underlying4
  a4 := Tryz.isAgg4
  z4 := Tryz.sizeOf4
  v4 := Tryz.zeroValue4
  t5 := Tryz.underlying5
  a5 := Tryz.isAgg5
  z5 := Tryz.sizeOf5
  v5 := Tryz.zeroValue5
  t9 := Tryz.underlying9
  a9 := Tryz.isAgg9
  z9 := Tryz.sizeOf9
  v9 := Tryz.zeroValue9
  t21 := Tryz.underlying21
  a21 := Tryz.isAgg21
  z21 := Tryz.sizeOf21
  v21 := Tryz.zeroValue21
  t46 := Tryz.underlying113
  a46 := Tryz.isAgg113
  z46 := Tryz.sizeOf113
  v46 := Tryz.zeroValue113
  t116 := Tryz.underlying85
  a116 := Tryz.isAgg85
  z116 := Tryz.sizeOf85
  t117 := Tryz.underlying86
  a117 := Tryz.isAgg86
  z117 := Tryz.sizeOf86
  v117 := Tryz.zeroValue86
  t124 := Tryz.underlying89
  a124 := Tryz.isAgg89
  z124 := Tryz.sizeOf89
  v124 := Tryz.zeroValue89 }
open Go.RowKit Go.Lib in
theorem Tryz.strings_IndexAny_long (hv116 : ∀ w, (zeroValue 85).run Tryz.prog w = .ok (.agg (Array.replicate 256 (.bool false))) w) (s chars : ByteArray) (w : World) (h2 : 2 ≤ chars.size) (h8 : 8 < s.size) (hs : s.size < 4294967281) (hcs : chars.size < 4294967281) (hascii : ∀ (j : Nat) b, chars.data.toList[j]? = some b → b.toNat < 128) :
    Calls Tryz.prog 47 #[.string s, .string chars] w fun e w' => e = .returned (.int .i64 (Lib.indexAny s.data.toList chars.data.toList)) ∧ w' = ((w.alloc (.cells (Lib.setCells chars.data.toList) 85)).alloc (.cells (Lib.setCells chars.data.toList) 85)) := Any.strings_IndexAny_long Tryz.lays153 hv116 (by kernel_rfl) s chars w h2 h8 hs hcs hascii
end Go.Proofs
end

section
/- THE WALK OF strconv.ParseFloat: it answers, whatever the text be. -/
namespace Go.Proofs.YtnccpddjdgndcaaGreatDoor.Pf
open Go.RowKit Go.Proofs.YtnccpddjdgndcaaGreatDoor.Fmt
/-- a float and one of three errors -/
def AnsQ (e : Ending) : Prop := ∃ (y : Nat) (v : Value), e = .returned (.tuple #[.float .f64 y, v]) ∧ y < 18446744073709551616 ∧ ErrQ v
def ErrE (v : Value) : Prop := v = .nilIface ∨ ∃ t p, v = .iface t p
def AnsE (e : Ending) : Prop := ∃ (y : Nat) (v : Value), e = .returned (.tuple #[.float .f64 y, v]) ∧ y < 18446744073709551616 ∧ ErrE v
/-- the two errors' variables -/
structure EvT (w : World) : Prop where
  syn : ∃ ev, w.cell? ⟨1, 0, none⟩ = some ev ∧ (ev = .nilIface ∨ ∃ te pe, ev = .iface te pe)
  rng : ∃ ev, w.cell? ⟨5, 0, none⟩ = some ev ∧ (ev = .nilIface ∨ ∃ te pe, ev = .iface te pe)
theorem EvT.below {w w2 : World} (h : EvT w) (hb : Below w.heap.size w w2) : EvT w2 := by
  obtain ⟨⟨a, h1, h2⟩, b, h3, h4⟩ := h
  exact ⟨⟨a, Tab.cell_below hb (Nat.le_refl _) h1, h2⟩, b, Tab.cell_below hb (Nat.le_refl _) h3, h4⟩
theorem fprefix_any (s : ByteArray) (hs : s.size ≤ 100000) (w : World) (B R o c : Nat) (hA : AW w B R o c) :
    Calls Tryz.prog 79 #[.string s, .int .i64 64] w fun e w' => AnsA e ∧ Below w.heap.size w w' := by
  have ha := atof_any s hs (fun W => rf_any s hs W) w B R o c hA
  have HA := Lib.hid ha; clear ha
  go_enter Tryz.func79, Tryz.ntmps79
  go_wp2_with (go_at_call 111; refine HA.out.mono ?_; rintro e w' ⟨⟨y, n, v, rfl, hy, hv⟩, hb⟩)
  go_returns
  exact ⟨⟨_, _, _, rfl, hy, hv⟩, hb⟩
theorem iparse_any (s : ByteArray) (hs : s.size ≤ 100000) (w : World) (B R o c : Nat) (hA : AW w B R o c) :
    Calls Tryz.prog 48 #[.string s, .int .i64 64] w fun e w' => AnsQ e ∧ Below w.heap.size w w' := by
  have ha := fprefix_any s hs w B R o c hA
  have HA := Lib.hid ha; clear ha
  go_enter Tryz.func48, Tryz.ntmps48
  go_wp2_with (go_at_call 79; refine HA.out.mono ?_; rintro e w' ⟨⟨y, n, v, rfl, hy, hv⟩, hb⟩)
  · go_returns
    exact ⟨⟨_, _, rfl, by decide, .inr (.inr rfl)⟩, hb⟩
  · go_returns
    exact ⟨⟨_, _, rfl, hy, hv⟩, hb⟩
theorem parse_any (s : ByteArray) (hs : s.size ≤ 100000) (w : World) (B R o c : Nat) (hA : AW w B R o c) (hE : EvT w) :
    Calls Tryz.prog 31 #[.string s, .int .i64 64] w fun e w' => AnsE e ∧ Below w.heap.size w w' := by
  have ha := iparse_any s hs w B R o c hA
  have HA := Lib.hid ha; clear ha
  go_enter Tryz.func31, Tryz.ntmps31
  go_upto_region 2 with (go_at_call 48; refine HA.out.mono ?_; rintro e w1 ⟨⟨y, v, rfl, hy, hv⟩, hb⟩)
  obtain ⟨⟨a, ha1, ha2⟩, b, hb1, hb2⟩ := hE.below hb
  rcases hv with rfl | rfl | rfl
  · go_wp2_with fail
    go_returns
    exact ⟨⟨_, _, rfl, hy, .inl rfl⟩, hb⟩
  · go_wp2_with (first | (go_at_call 49; refine (Tryz.strconv_toError_range _ s _ _ _ w1 (by omega) hb1 hb2).mono ?_; rintro e w2 ⟨N, rfl, _, _, hb3⟩) | fail)
    go_returns
    exact ⟨⟨_, _, rfl, hy, .inr ⟨_, _, rfl⟩⟩, Val.btrans hb hb3⟩
  · go_wp2_with (first | (go_at_call 49; refine (Tryz.strconv_toError_syntax _ s _ _ _ w1 (by omega) ha1 ha2).mono ?_; rintro e w2 ⟨N, rfl, _, _, hb3⟩) | fail)
    go_returns
    exact ⟨⟨_, _, rfl, hy, .inr ⟨_, _, rfl⟩⟩, Val.btrans hb hb3⟩
end Go.Proofs.YtnccpddjdgndcaaGreatDoor.Pf
end

section
/- strconv.ParseInt AT ANY TEXT: it answers. -/
namespace Go.Proofs.YtnccpddjdgndcaaGreatDoor.Pf
open Go.RowKit Go.Proofs.YtnccpddjdgndcaaGreatDoor.Fmt
def AnsZ (e : Ending) : Prop := ∃ (y : Int) (v : Value), e = .returned (.tuple #[.int .i64 y, v]) ∧ -9223372036854775808 ≤ y ∧ y ≤ 9223372036854775807 ∧ ErrE v
theorem pint_any (s : ByteArray) (hs : s.size ≤ 100000) (w : World) (hE : EvT w) :
    Calls Tryz.prog 33 #[.string s, .int .i64 10, .int .i64 64] w fun e w' => AnsZ e ∧ Below w.heap.size w w' := by
  obtain ⟨⟨a, ha1, ha2⟩, b, hb1, hb2⟩ := hE
  rcases h : Lib.parseIntB 64 s.data.toList with v | _ | _
  · have hv := Lib.parseIntB_bounds h
    refine (Tryz.strconv_ParseInt_10_at64_ok s (by omega) v h w).mono ?_
    rintro e w' ⟨rfl, hw⟩
    refine ⟨⟨v, _, rfl, by have := hv.1; simp at this; omega, by have := hv.2; simp at this; omega, .inl rfl⟩, ?_⟩
    rcases hw with rfl | ⟨t, rfl⟩
    · exact Below.refl _ _
    · exact Lib.bytesWorld_below _ _ _
  · refine (Tryz.strconv_ParseInt_10_at64_syntax s (by omega) h a w ha1 ha2).mono ?_
    rintro e w' ⟨N, rfl, _, _, hb⟩
    exact ⟨⟨0, _, rfl, by decide, by decide, .inr ⟨_, _, rfl⟩⟩, hb⟩
  · refine (Tryz.strconv_ParseInt_10_at64_range s (by omega) h b w hb1 hb2).mono ?_
    rintro e w' ⟨N, rfl, _, _, hb⟩
    refine ⟨⟨_, _, rfl, ?_, ?_, .inr ⟨_, _, rfl⟩⟩, hb⟩
    · unfold Lib.intSat; split <;> decide
    · unfold Lib.intSat; split <;> decide
end Go.Proofs.YtnccpddjdgndcaaGreatDoor.Pf
end
