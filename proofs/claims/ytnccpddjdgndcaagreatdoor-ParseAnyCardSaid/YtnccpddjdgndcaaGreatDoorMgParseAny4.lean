/- MERGED BY A PROGRAM OF MINE (pmg.py) out of my own texts, pruned, in their order: ParseFl, PfLaid, Pf2, Pf3, PfE1, PfE2, PwLaid, RfS, Ahx, PfA, SpB, Atf, RfE, Pflt, Pint, Print, Unq, UqF, UqG, UqH, Fit02, ReadT, CPrint, RdT, PfB, PfC, PfD, RdN. -/
import Derived.Test.YtnccpddjdgndcaaGreatDoorMgParseAny3
import Derived.Test.YtnccpddjdgndcaaGreatDoorTabs
import Derived.Handy
import Derived.Laws.Cover2
import Derived.WalkMore
import Derived.Test.YtnccpddjdgndcaaGreatDoorFmt3
import Derived.Test.YtnccpddjdgndcaaGreatDoorFmtM
import Derived.Laws.BitsAllLaws
import Derived.Test.YtnccpddjdgndcaaGreatDoorOrdFn
import Derived.Test.YtnccpddjdgndcaaGreatDoorUqB
import Derived.Test.YtnccpddjdgndcaaGreatDoorRfB
import Derived.Deep.DeepCutAuto
import Derived.Deep.CutBlock
import Derived.Deep.CutRange
import Derived.Deep.LoopGhost
import Derived.Deep.QuietTactic
import Derived.BigQuiet
import Derived.LaidEqlPtr
import Derived.Test.YtnccpddjdgndcaaGreatDoorRfD
import Derived.Test.YtnccpddjdgndcaaGreatDoorSpA
import Derived.Test.YtnccpddjdgndcaaGreatDoorRfH
import Derived.Lib.ParseIntBTie
import Derived.Test.YtnccpddjdgndcaaGreatDoorVal
import Derived.Test.YtnccpddjdgndcaaGreatDoorQuo
import Derived.Lib.AppendIntMem
import Derived.Lib.PathFns
import Derived.Lib.ValidAsc
import Derived.BigGuardPart
import Derived.Test.YtnccpddjdgndcaaGreatDoorUqE
import Derived.Test.YtnccpddjdgndcaaGreatDoorFmtP
import Derived.Lib.AtoiAllCases
import Derived.Lib.ItoaLen

section
/- THE WALK OF strconv.ParseFloat AT ONE TEXT ("3.0"): the exact road, thirty divided by ten. -/
namespace Go.Proofs.YtnccpddjdgndcaaGreatDoor.Pf
open Go.RowKit Go.Lib
structure PfT (w : World) : Prop where
 opt : w.cell? ⟨7, 0, none⟩ = some (.bool true)
 inf : w.cell? ⟨10, 0, none⟩ = some (.int .u64 52)
 pow : ∃ R o c : Nat, w.cell? ⟨13, 0, none⟩ = some (.slice (some ⟨R, o, none⟩) 23 c) ∧ w.cell? ⟨R, o + 1, none⟩ = some (.float .f64 4621819117588971520)
theorem PfT.below {w w' : World} {B : Nat} (h : PfT w) (hb : Below B w w') (hB : w.heap.size ≤ B) : PfT w' := by
 obtain ⟨h1, h2, R, o, c, h3, h4⟩ := h
 exact ⟨Tab.cell_below hb hB h1, Tab.cell_below hb hB h2, R, o, c, Tab.cell_below hb hB h3, Tab.cell_below hb hB h4⟩
abbrev t3 : Value := .string ⟨#[51, 46, 48]⟩
theorem g0 (h : 0 < (⟨#[51, 46, 48]⟩ : ByteArray).size) : ((⟨#[51, 46, 48]⟩ : ByteArray)[0]'h) = 51 := rfl
theorem g1 (h : 1 < (⟨#[51, 46, 48]⟩ : ByteArray).size) : ((⟨#[51, 46, 48]⟩ : ByteArray)[1]'h) = 46 := rfl
theorem g2 (h : 2 < (⟨#[51, 46, 48]⟩ : ByteArray).size) : ((⟨#[51, 46, 48]⟩ : ByteArray)[2]'h) = 48 := rfl
attribute [local go_sem] g0 g1 g2
end Go.Proofs.YtnccpddjdgndcaaGreatDoor.Pf
end

section
/- THE TABLES THAT ParseFloat's EXACT ROAD READS, as a row lays them. -/
namespace Go.Proofs.YtnccpddjdgndcaaGreatDoor.Pf
open Go.RowKit Go.Lib
theorem trod_float {H : Type} {enc : TypeId × Value → H} {P : Program} {w : World} {base : Nat} {spare : Nat → Bool} {held : Bool} {fuel : Nat} {t : TypeId} {cs : List Value} {x : DataW H × List MemPlace} {k : FloatKind}
  (ht : P.underlying t = some (.float k)) (h : DataW.trod enc P w base spare held fuel t cs = some x) : ∃ n, cs = [.float k n] ∧ x = (.lit (.float k n), []) := by
 cases fuel with
 | zero => simp [DataW.trod] at h
 | succ n =>
  unfold DataW.trod at h
  rw [ht] at h
  split at h <;> simp_all
theorem bool_of_reads {P : Program} {w : World} {name : String} {g : Nat} {t : TypeId} {b : Bool} (hn : P.globalNamed name = some g) (hy : (P.globals[g]?).map (·.type) = some t) (ht : P.underlying t = some .bool)
  (h : VarReads P w name (.lit (.bool b))) : w.cell? ⟨g, 0, none⟩ = some (.bool b) := by
 obtain ⟨g', t', cs, fuel, p, hg, hty, hvar, hd⟩ := h
 obtain rfl := Option.some.inj (hn.symm.trans hg)
 obtain rfl := Option.some.inj (hy.symm.trans hty)
 obtain ⟨b', hb, hx⟩ := DataW.trod_bool ht hd
 have e := congrArg Prod.fst hx
 simp only [DataW.lit.injEq, Lit.bool.injEq] at e
 rw [World.var?_cell hn hvar 0, ← Array.getElem?_toList, hb, e]; rfl
theorem field0_of_reads {P : Program} {w : World} {name : String} {g : Nat} {t : TypeId} {fs : Array Field} {f : Field} {k : IntKind} {z : Int} {ds : List (DataW Unit)} (hn : P.globalNamed name = some g) (hy : (P.globals[g]?).map (·.type) = some t) (ht : P.underlying t = some (.struct fs))
  (hf : fs[0]? = some f) (ho : f.offset = 0) (hc : P.cellsOf f.type = 1) (hk : P.underlying f.type = some (.int k)) (h : VarReads P w name (.agg (.lit (.int k z) :: ds))) : w.cell? ⟨g, 0, none⟩ = some (.int k z) := by
 obtain ⟨g', t', cs, fuel, p, hg, hty, hvar, hd⟩ := h
 obtain rfl := Option.some.inj (hn.symm.trans hg)
 obtain rfl := Option.some.inj (hy.symm.trans hty)
 obtain ⟨xs, n, rfl, hx, hl, hxl, hall⟩ := DataW.trod_struct ht hd
 have e := congrArg Prod.fst hx
 simp only [DataW.agg.injEq] at e
 have h0 := hall 0 f hf
 rw [ho, hc] at h0
 cases xs with
 | nil => simp at e
 | cons y ys =>
  simp only [List.map_cons, List.cons.injEq] at e
  simp only [List.getElem?_cons_zero, List.drop_zero] at h0
  obtain ⟨z', hz, hyz, _⟩ := DataW.trod_int hk h0
  have e1 := e.1
  rw [hyz] at e1
  simp only [DataW.lit.injEq, Lit.int.injEq, true_and] at e1
  rw [World.var?_cell hn hvar 0, ← Array.getElem?_toList]
  have := congrArg (·[0]?) hz
  simp only [List.getElem?_take, List.getElem?_cons_zero] at this
  rw [e1]; simpa using this
theorem floats_of_reads {P : Program} {w : World} {name : String} {g : Nat} {t e : TypeId} {k : FloatKind} {l : List (DataW Unit)} {z : Nat} {i : Nat} (hn : P.globalNamed name = some g) (hy : (P.globals[g]?).map (·.type) = some t)
  (ht : P.underlying t = some (.slice e)) (he : P.underlying e = some (.float k)) (hc : P.cellsOf e = 1) (hi : l[i]? = some (.lit (.float k z))) (h : VarReads P w name (.slice l [])) :
  ∃ R o c : Nat, w.cell? ⟨g, 0, none⟩ = some (.slice (some ⟨R, o, none⟩) l.length c) ∧ w.cell? ⟨R, o + i, none⟩ = some (.float k z) := by
 obtain ⟨g', t', cs, fuel, p, hg, hty, hvar, hd⟩ := h
 obtain rfl := Option.some.inj (hn.symm.trans hg)
 obtain rfl := Option.some.inj (hy.symm.trans hty)
 rcases DataW.trod_slice ht hd with ⟨_, hx⟩ | ⟨a, len, cap, el, rs, m, rfl, hcs, hx, _, hlc, _, hel, helem, hsp, _⟩
 ·cases hx
 have e0 := congrArg Prod.fst hx
 simp only [DataW.slice.injEq] at e0
 obtain ⟨eE, eR⟩ := e0
 have hlen : len = l.length := by
  have := congrArg List.length eE
  simp at this
  omega
 have hlt : i < l.length := (List.getElem?_eq_some_iff.1 hi).1
 have h1 := helem i (by omega)
 rw [hc, Nat.mul_one] at h1
 obtain ⟨b, hb⟩ : ∃ b, el[i]? = some b := ⟨el[i]'(by omega), List.getElem?_eq_getElem (by omega)⟩
 rw [hb] at h1
 obtain ⟨ce, hce, hte⟩ := Option.bind_eq_some_iff.1 h1
 obtain ⟨z', hz, hbz⟩ := trod_float he hte
 have hb1 : (DataW.lit (.float k z) : DataW Unit) = b.1 := by
  have := congrArg (·[i]?) eE
  rw [List.getElem?_map, hb] at this
  rw [hi] at this
  simpa using this
 rw [hbz] at hb1
 simp only [DataW.lit.injEq, Lit.float.injEq, true_and] at hb1
 obtain ⟨_, _, hcc⟩ := World.cells?_some hce
 have h2 := hcc 0 (by omega)
 rw [hz, ← hb1] at h2
 have e1 : (a.add i).add 0 = a.add i := by simp [Addr.add]
 rw [e1] at h2
 have hcell : w.cell? (a.add i) = some (.float k z) := h2
 obtain ⟨R, o, sR⟩ := a
 obtain rfl : sR = none := by
  have h3 := helem 0 (by omega)
  rw [hc, Nat.zero_mul, List.getElem?_eq_getElem (show 0 < el.length by omega)] at h3
  obtain ⟨ce2, hce2, _⟩ := Option.bind_eq_some_iff.1 h3
  obtain ⟨_, _, hcc2⟩ := World.cells?_some hce2
  have h4 := hcc2 0 (by omega)
  have e2 : ((Addr.add ⟨R, o, sR⟩ 0).add 0) = ⟨R, o, sR⟩ := by simp [Addr.add]
  rw [e2] at h4
  cases ce2 with
  | nil => simp at hcc2; rename_i q; simp at q
  | cons v vs => exact Go.Proofs.cell_spot h4
 refine ⟨R, o, cap, ?_, ?_⟩
 ·rw [World.var?_cell hn hvar 0, ← Array.getElem?_toList, hcs, hlen]
  rfl
 ·rwa [Addr.add_lit] at hcell
end Go.Proofs.YtnccpddjdgndcaaGreatDoor.Pf
end

section
/- THE WALK OF strconv.parseFloat64 (second part). -/
namespace Go.Proofs.YtnccpddjdgndcaaGreatDoor.Pf
open Go.RowKit Go.Proofs.YtnccpddjdgndcaaGreatDoor.Fmt Go.Proofs.YtnccpddjdgndcaaGreatDoor.Val Go.Proofs.YtnccpddjdgndcaaGreatDoor.Nt
def pfV (d : Nat) (p sg : Int) : Int × Bool :=
 if 64 ≤ pfS d p then (sg, false)
 else if 36028797018963966 ≤ pfU d p then packB (bits .or .u64 sg ((rnd (pfU d p / 2 ||| pfU d p % 2) : Nat) : Int)) (-(pfE d p - 1))
 else packB (bits .or .u64 sg ((rnd (pfU d p) : Nat) : Int)) (-pfE d p)
theorem and1u (n : Nat) (h : n < 18446744073709551616) : bits .and .u64 (n : Int) 1 = ((n % 2 : Nat) : Int) := by
 have := and_u n 1 h (by decide)
 rw [show ((1 : Int)) = ((1 : Nat) : Int) from rfl, this, Nat.and_one_is_mod]
set_option maxRecDepth 20000 in
set_option maxHeartbeats 2000000 in
theorem pf64_any (d : Nat) (p sg : Int) (hd0 : 1 ≤ d) (hd : d < 18446744073709551616) (hp0 : -348 ≤ p) (hp1 : p ≤ 347) (hsg : bits .or .u64 sg 0 = sg) (w : World) (hpw : Pow w) :
  Calls Tryz.prog 159 #[.int .u64 d, .int .i64 p, .int .u64 sg] w fun e' w' => e' = .returned (.tuple #[.float .f64 (pfV d p sg).1.toNat, errV (pfV d p sg).2]) ∧ Below w.heap.size w w' := by
 have hv : pfV d p sg = pfV d p sg := rfl
 conv at hv => rhs; unfold pfV
 generalize pfV d p sg = V at *
 obtain ⟨l1, l2, l3⟩ := len_bounds d hd hd0
 have hS' : pfS d p = -(pfE d p - (64 - (Lib.bitLen d : Int)) + lg2 p + 3) := rfl
 have hE' : pfE d p = min 1074 (53 - (Lib.bitLen d : Int) - lg2 p) := rfl
 have hU' : pfU d p = usc (d * 2 ^ (64 - Lib.bitLen d)) (hiT (pfI p)) (loT (pfI p)) (pfS d p).toNat := rfl
 have l4 : Lib.bitLen d ≤ 64 := Lib.bitLen_le d 64 (by decide) hd
 obtain ⟨b, hb⟩ : ∃ b : Nat, Lib.bitLen d = b := ⟨_, rfl⟩
 rw [hb] at l1 l2 l3 l4 hS' hE' hU'
 have hle : (Lib.bitLen ((d : Int)).toNat : Int) = (b : Int) := by rw [Int.toNat_natCast, hb]
 have hlen := fun W => Tryz.bits_Len64 (d : Int) W (by omega) (by omega)
 rw [hle] at hlen
 have hi : p + 348 = pfI p := by unfold pfI; omega
 generalize pfI p = i at *
 have hi2 : i < 696 := by omega
 have hlp : -2000 ≤ lg2 p ∧ lg2 p ≤ 2000 := by unfold lg2; omega
 have hlg := fun W => lg2_any p (by omega) (by omega) W
 have hpre := fun (E : Int) (h0 : -100000 ≤ E) (h1 : E ≤ 100000) => prescale_any E p (lg2 p) i hi hi2 h0 h1 (by omega) (by omega) w hpw
 generalize lg2 p = lp at *
 have j1 : (0 : Int) ≤ 64 - (b : Int) := by omega
 obtain ⟨X, hX⟩ : ∃ X : Nat, d * 2 ^ (64 - b) = X := ⟨_, rfl⟩
 have hXl : X < 18446744073709551616 := by
  have := Nat.mul_lt_mul_of_pos_right l3 (Nat.two_pow_pos (64 - b))
  rw [pow_join _ _ 64 (by omega)] at this
  omega
 have hXw : IntKind.u64.wrap ((d : Int) * 2 ^ (64 - b)) = (X : Int) := by
  rw [IntKind.wrap_u64, ← hX]
  have e : ((d * 2 ^ (64 - b) : Nat) : Int) = (d : Int) * 2 ^ (64 - b) := by push_cast; rfl
  rw [← e, hX]
  omega
 rw [hX] at hU'
 generalize pfE d p = E at *
 generalize pfS d p = S at *
 generalize pfU d p = U at *
 have HLEN := Lib.hid hlen; have HLG := Lib.hid hlg; have HPRE := Lib.hid hpre; have HV := Lib.hid hv; have HU' := Lib.hid hU'; have HE' := Lib.hid hE'
 have hE0 : -3000 ≤ E := by omega
 have hE1 : E ≤ 1074 := by omega
 have hS0 : 8 ≤ S := by omega
 have HS' := Lib.hid hS'
 clear hlen hlg hpre hpw hv hU' hX l1 l2 l3 hb hi hle hE' hS'
 go_enter Tryz.func159, Tryz.ntmps159
 go_upto_region 5 with (first | (go_at_call 118; (refine (HLEN.out _).mono ?_); rintro e w1 ⟨rfl, rfl⟩) | (go_at_call 167; (refine (HLG.out _).mono ?_); rintro e w1 ⟨rfl, rfl⟩) | fail)
 rw [← HE'.out]
 go_upto_region 6 with (first | (go_at_call 166; (refine (HPRE.out (E - (64 - (b : Int))) (by omega) (by omega)).mono ?_); rintro e w2 ⟨rfl, rfl⟩) | fail)
 rw [← HS'.out]
 have hc : ∀ o n, ((w1.alloc (.cells #[.int .u64 (hiT i : Nat), .int .u64 (loT i : Nat), .int .i64 S] 199)).drewN n).cell? ⟨w1.heap.size, o, none⟩ = #[.int .u64 (hiT i : Nat), .int .u64 (loT i : Nat), .int .i64 S][o]? := fun o n => World.cell?_alloc_at (w := w1) _ _ _ _ rfl
 have hbl : ∀ n, Below w1.heap.size w1 ((w1.alloc (.cells #[.int .u64 (hiT i : Nat), .int .u64 (loT i : Nat), .int .i64 S] 199)).drewN n) := fun n => Val.bdrewN (Val.balloc w1 (.cells #[.int .u64 (hiT i : Nat), .int .u64 (loT i : Nat), .int .i64 S] 199)) n
 have HBL := Lib.hid hbl
 have c2 := hc 2 0
 clear hbl HPRE HLEN HLG
 have HSG := Lib.hid hsg
 clear hsg
 by_cases hs : 64 ≤ S
 ·have hv := HV.out
  rw [if_pos hs] at hv
  subst hv
  go_wp2_with (first | (simp only [sfrom_call, HSG.out]) | fail)
  try rw [HSG.out]
  go_returns
  exact ⟨rfl, HBL.out 0⟩
 ·obtain ⟨S, rfl⟩ : ∃ q : Nat, S = q := ⟨S.toNat, by omega⟩
  have hS63 : S ≤ 63 := by omega
  have hv := HV.out
  rw [if_neg hs] at hv
  have HV2 := Lib.hid hv
  have hu2 := HU'.out
  rw [Int.toNat_natCast] at hu2
  have HU2 := Lib.hid hu2
  clear hv hu2 hs HV HU'
  have hUl : U < 18446744073709551616 := by rw [HU2.out]; exact usc_lt _ _ _ _ hXl (hiT_big _ hi2).2
  obtain ⟨hh, hhb⟩ := hiT_big _ hi2
  have hlo := lo_lt i hi2
  have c0 : ((w1.alloc (.cells #[.int .u64 (hiT i : Nat), .int .u64 (loT i : Nat), .int .i64 (S : Int)] 199))).cell? ⟨w1.heap.size, 0, none⟩ = some (.int .u64 (hiT i : Nat)) := hc 0 0
  have c1 : ((w1.alloc (.cells #[.int .u64 (hiT i : Nat), .int .u64 (loT i : Nat), .int .i64 (S : Int)] 199))).cell? ⟨w1.heap.size, 1, none⟩ = some (.int .u64 (loT i : Nat)) := hc 1 0
  have c2' : ((w1.alloc (.cells #[.int .u64 (hiT i : Nat), .int .u64 (loT i : Nat), .int .i64 (S : Int)] 199))).cell? ⟨w1.heap.size, 2, none⟩ = some (.int .i64 (S : Int)) := hc 2 0
  have hus := uscale_any X (hiT i) (loT i) S w1.heap.size hXl hhb hlo hS63 _ c0 c1 c2'
  rw [← HU2.out] at hus
  have HUS := Lib.hid hus
  have hs64 : ¬ (64 : Int) ≤ (S : Int) := by omega
  clear hus c0 c1 c2 hc HU2
  generalize w1.alloc (.cells #[.int .u64 (hiT i : Nat), .int .u64 (loT i : Nat), .int .i64 (S : Int)] 199) = W at *
  have hand := and1u U hUl
  have HAND := Lib.hid hand
  clear hand
  by_cases hU : 36028797018963966 ≤ U
  ·have hv := HV2.out
   rw [if_pos hU] at hv
   have HV3 := Lib.hid hv; clear hv HV2
   have hUi : (36028797018963966 : Int) ≤ (U : Int) := by omega
   have hor := or_u (U / 2) (U % 2) (by omega) (by omega)
   rw [show ((U / 2 : Nat) : Int) = (U : Int) / 2 by omega, show ((U % 2 : Nat) : Int) = (U : Int) % 2 by omega] at hor
   have hQ : (U / 2 ||| U % 2) < 18446744073709551616 := Nat.or_lt_two_pow (n := 64) (by omega) (by omega)
   generalize (U / 2 ||| U % 2) = Q at *
   have HOR := Lib.hid hor
   clear hor
   go_upto_region 12 with (first | (go_at_call 168; refine HUS.out.mono ?_; rintro e w3 ⟨rfl, n, rfl⟩) | (go_at_call 173; refine (unmin_53 _).mono ?_; rintro e w4 ⟨rfl, rfl⟩) | (go_at_call 119; refine (bool2i_any _ _).mono ?_; rintro e w4 ⟨rfl, rfl⟩) | (simp only [HAND.out]) | fail)
   rw [HOR.out]
   have hrn := fun W => rnd_any Q hQ W
   have hpk := fun W => pack_any (bits .or .u64 sg (rnd Q : Nat)) (-(E - 1)) (by omega) (by omega) W
   rw [← HV3.out] at hpk
   have HRN := Lib.hid hrn; have HPK := Lib.hid hpk
   clear hrn hpk
   go_wp2_with (first | (go_at_call 172; refine (HRN.out _).mono ?_; rintro e w4 ⟨rfl, rfl⟩) | (go_at_call 192; refine (HPK.out _).mono ?_; rintro e w4 ⟨rfl, rfl⟩) | fail)
   go_returns
   exact ⟨rfl, HBL.out _⟩
  ·have hv := HV2.out
   rw [if_neg hU] at hv
   have HV3 := Lib.hid hv; clear hv HV2
   have hUi : ¬ (36028797018963966 : Int) ≤ (U : Int) := by omega
   have hor := or_u U (U % 2) (by omega) (by omega)
   rw [show ((U % 2 : Nat) : Int) = (U : Int) % 2 by omega] at hor
   have hUU : U ||| U % 2 = U := by
    rcases Nat.mod_two_eq_zero_or_one U with o | o
    ·rw [o, Nat.or_zero]
    ·rw [o, Nt.or1]; omega
   rw [hUU] at hor
   have HOR := Lib.hid hor
   clear hor hUU
   go_upto_region 12 with (first | (go_at_call 168; refine HUS.out.mono ?_; rintro e w3 ⟨rfl, n, rfl⟩) | (go_at_call 173; refine (unmin_53 _).mono ?_; rintro e w4 ⟨rfl, rfl⟩) | (go_at_call 119; refine (bool2i_any _ _).mono ?_; rintro e w4 ⟨rfl, rfl⟩) | (simp only [HAND.out]) | fail)
   rw [HOR.out]
   have hrn := fun W => rnd_any U hUl W
   have hpk := fun W => pack_any (bits .or .u64 sg (rnd U : Nat)) (-E) (by omega) (by omega) W
   rw [← HV3.out] at hpk
   have HRN := Lib.hid hrn; have HPK := Lib.hid hpk
   clear hrn hpk
   go_wp2_with (first | (go_at_call 172; refine (HRN.out _).mono ?_; rintro e w4 ⟨rfl, rfl⟩) | (go_at_call 192; refine (HPK.out _).mono ?_; rintro e w4 ⟨rfl, rfl⟩) | fail)
   go_returns
   exact ⟨rfl, HBL.out _⟩
end Go.Proofs.YtnccpddjdgndcaaGreatDoor.Pf
end

section
/- WHAT parseFloat64 ANSWERS is the number that is the nearest one. No walk. -/
namespace Go.Proofs.YtnccpddjdgndcaaGreatDoor.Pf
open Go.RowKit Go.Proofs.YtnccpddjdgndcaaGreatDoor.Fmt Go.Proofs.YtnccpddjdgndcaaGreatDoor.Nt Ieee
def sgN (neg : Bool) : Nat := if neg then 9223372036854775808 else 0
theorem sgN_or (neg : Bool) (m : Nat) (h : m < 9223372036854775808) : sgN neg ||| m = sgN neg + m := by
 refine nat_join 63 _ _ ?_ (by rw [show (2 : Nat) ^ 63 = 9223372036854775808 by decide]; exact h)
 cases neg <;> decide
theorem word_eq (neg : Bool) (b : Nat) : double.word neg b = sgN neg + b := by
 unfold Format.word sgN
 have : double.signWeight = 9223372036854775808 := by decide
 rw [this]
 split <;> omega
theorem and52 (m : Nat) (h : m < 18446744073709551616) : bits .and .u64 (m : Int) 4503599627370496 = if m / 4503599627370496 % 2 = 1 then 4503599627370496 else 0 := by
 have h1 := and_u m 4503599627370496 h (by decide)
 rw [show ((4503599627370496 : Nat) : Int) = 4503599627370496 by decide] at h1
 rw [h1]
 have a1 : (m &&& 4503599627370496) / 2 ^ 52 = (m / 2 ^ 52) &&& (4503599627370496 / 2 ^ 52) := Nat.and_div_two_pow
 have a2 : (m &&& 4503599627370496) % 2 ^ 52 = (m % 2 ^ 52) &&& (4503599627370496 % 2 ^ 52) := Nat.and_mod_two_pow
 rw [show 4503599627370496 / 2 ^ 52 = 1 by decide, Nat.and_one_is_mod, show (2 : Nat) ^ 52 = 4503599627370496 by decide] at a1
 rw [show 4503599627370496 % 2 ^ 52 = 0 by decide, Nat.and_zero, show (2 : Nat) ^ 52 = 4503599627370496 by decide] at a2
 split <;> omega
theorem clear52 (m : Nat) (h : m < 18446744073709551616) (h1 : m / 4503599627370496 % 2 = 1) : bits .andNot .u64 (m : Int) 4503599627370496 = ((m - 4503599627370496 : Nat) : Int) := by
 have e := u64_andNot_nat m 4503599627370496 h (by decide)
 rw [show ((4503599627370496 : Nat) : Int) = 4503599627370496 by decide] at e
 rw [e]
 refine congrArg (fun n : Nat => (n : Int)) ?_
 have a1 : (m &&& (18446744073709551615 - 4503599627370496)) / 2 ^ 53 = (m / 2 ^ 53) &&& ((18446744073709551615 - 4503599627370496) / 2 ^ 53) := Nat.and_div_two_pow
 have a2 : (m &&& (18446744073709551615 - 4503599627370496)) % 2 ^ 53 = (m % 2 ^ 53) &&& ((18446744073709551615 - 4503599627370496) % 2 ^ 53) := Nat.and_mod_two_pow
 rw [show (18446744073709551615 - 4503599627370496) / 2 ^ 53 = 2 ^ 11 - 1 by decide, Nat.and_two_pow_sub_one_eq_mod] at a1
 rw [show (18446744073709551615 - 4503599627370496) % 2 ^ 53 = 2 ^ 52 - 1 by decide, Nat.and_two_pow_sub_one_eq_mod] at a2
 rw [show (2 : Nat) ^ 53 = 9007199254740992 by decide] at a1 a2
 rw [show (2 : Nat) ^ 11 = 2048 by decide] at a1
 rw [show (2 : Nat) ^ 52 = 4503599627370496 by decide] at a2
 omega
theorem packB_of (b : Nat) (neg : Bool) (h1 : 1 ≤ b) (h2 : b < 9218868437227405312) : packB (bits .or .u64 (sgN neg : Nat) (bM b : Nat)) (bE b) = (((double.word neg b : Nat) : Int), false) := by
 obtain ⟨f1, f2, f3, f4, _⟩ := bM_facts b h1 h2
 have hs : sgN neg = 0 ∨ sgN neg = 9223372036854775808 := by cases neg; exact Or.inl rfl; exact Or.inr rfl
 have e0 : bexp b = b / 4503599627370496 := by unfold bexp; omega
 have e1 : bman b = b % 4503599627370496 := rfl
 have ho := or_u (sgN neg) (bM b) (by omega) (by omega)
 rw [sgN_or neg _ (by omega)] at ho
 have ha := and52 (sgN neg + bM b) (by omega)
 unfold packB
 rw [ho, word_eq]
 by_cases hM : bM b < 4503599627370496
 ·have hb : b = bM b := by
   by_cases q : bexp b = 0
   ·have : bM b = bman b := by unfold bM; rw [if_pos q]
    omega
   ·have : bM b = 4503599627370496 + bman b := by unfold bM; rw [if_neg q]
    omega
  rw [if_neg (by omega)] at ha
  rw [ha, if_pos rfl, ← hb]
 ·have hx : bM b = 4503599627370496 + bman b ∧ bE b = (bexp b : Int) - 1075 ∧ bexp b ≠ 0 := by
   unfold bM bE at *
   by_cases q : bexp b = 0
   ·rw [if_pos q] at hM; omega
   ·rw [if_neg q, if_neg q]; exact ⟨rfl, rfl, q⟩
  rw [if_pos (by omega)] at ha
  rw [ha, if_neg (by decide), if_neg (by omega), clear52 _ (by omega) (by omega)]
  have hw : IntKind.u64.wrap (IntKind.u64.wrap (1075 + bE b) * 4503599627370496) = ((bexp b * 4503599627370496 : Nat) : Int) := by
   rw [hx.2.1, IntKind.wrap_u64, IntKind.wrap_u64]; omega
  rw [hw]
  have h3 := or_u (sgN neg + bM b - 4503599627370496) (bexp b * 4503599627370496) (by omega) (by omega)
  rw [h3]
  have e2 : sgN neg + bM b - 4503599627370496 = sgN neg ||| bman b := by rw [sgN_or neg _ (by omega)]; omega
  have e3 : sgN neg ||| bexp b * 4503599627370496 = sgN neg + bexp b * 4503599627370496 := sgN_or neg _ (by omega)
  have e4 : (sgN neg + bexp b * 4503599627370496) ||| bman b = sgN neg + bexp b * 4503599627370496 + bman b := by
   refine nat_join 52 _ _ ?_ (by rw [show (2 : Nat) ^ 52 = 4503599627370496 by decide]; omega)
   rw [show (2 : Nat) ^ 52 = 4503599627370496 by decide]; omega
  rw [e2, Nat.or_assoc, Nat.or_comm (bman b), ← Nat.or_assoc, e3, e4]
  have e5 : sgN neg + bexp b * 4503599627370496 + bman b = sgN neg + b := by omega
  rw [e5]
theorem pfV_of (b d : Nat) (p : Int) (neg : Bool) (h1 : 1 ≤ b) (h2 : b < 9218868437227405312) (hd0 : 1 ≤ d) (hd : d < 144115188075855872) (hp0 : -348 ≤ p) (hp1 : p ≤ 347) (hr : InR b (d * pw2 0 * pw10 p)) :
  pfV d p (sgN neg : Nat) = (((double.word neg b : Nat) : Int), false) := by
 obtain ⟨s1, s2, s3, h⟩ := pf_M b d p h1 h2 hd0 hd hp0 hp1 hr
 unfold pfV
 rw [if_neg (by omega)]
 rcases h with ⟨g, u, r⟩ | ⟨g, u, r⟩
 ·rw [if_neg (by omega), r, g, Int.neg_neg]
  exact packB_of b neg h1 h2
 ·rw [if_pos u, r, g, show -(-bE b + 1 - 1) = bE b by omega]
  exact packB_of b neg h1 h2
end Go.Proofs.YtnccpddjdgndcaaGreatDoor.Pf
end

section
/- THE EXACT ROAD: a whole number's word times ten's word, or over it, is the number that is the nearest one. No walk. -/
namespace Go.Proofs.YtnccpddjdgndcaaGreatDoor.Pf
open Go.RowKit Go.Proofs.YtnccpddjdgndcaaGreatDoor.Fmt Go.Proofs.YtnccpddjdgndcaaGreatDoor.Nt Ieee
def tens : List Nat := [4607182418800017408, 4621819117588971520, 4636737291354636288, 4652007308841189376, 4666723172467343360, 4681608360884174848, 4696837146684686336, 4711630319722168320, 4726483295884279808, 4741671816366391296, 4756540486875873280, 4771362005757984768, 4786511204640096256, 4801453603149578240, 4816244402031689728, 4831355200913801216, 4846369599423283200, 4861130398305394688, 4876203697187506176, 4891288408196988160, 4906019910204099648, 4921056587992461136, 4936209963552724370]
def tn (k : Nat) : Nat := tens.getD k 0
theorem tens_ok : ∀ k, k < 23 → 1 ≤ tn k ∧ tn k < 9218868437227405312 ∧ bM (tn k) * pw2 (bE (tn k)) = 10 ^ k * pw2 0 ∧ -60 ≤ bE (tn k) ∧ bE (tn k) ≤ 60 := by decide +kernel
theorem exact_bds (b d : Nat) (h1 : 1 ≤ b) (h2 : b < 9218868437227405312) (hd : 1 ≤ d) (hd2 : d ≤ 9007199254740992) (e : bM b * pw2 (bE b) = d * pw2 0) : -60 ≤ bE b ∧ bE b ≤ 60 := by
 obtain ⟨f1, f2, f3, f4, _⟩ := bM_facts b h1 h2
 have P := pw2_pos (bE b)
 constructor
 ·have c1 : pw2 (bE b + 53) = pw2 (bE b) * 2 ^ 53 := pw2_step _ _ _ (by omega) (by omega)
  have c2 : bM b * pw2 (bE b) < 9007199254740992 * pw2 (bE b) := Nat.mul_lt_mul_of_pos_right (by omega) P
  have c3 := Nat.mul_le_mul_right (pw2 0) hd
  rw [show (2 : Nat) ^ 53 = 9007199254740992 by decide] at c1
  have := pw2_lt (a := 0) (b := bE b + 53) (by omega) (by omega)
  omega
 ·have c1 : pw2 (54 : Int) = pw2 0 * 2 ^ 54 := pw2_step _ _ _ (by omega) (by omega)
  have c2 := Nat.mul_le_mul_right (pw2 (bE b)) f1
  have c3 := Nat.mul_le_mul_right (pw2 0) hd2
  rw [show (2 : Nat) ^ 54 = 18014398509481984 by decide] at c1
  have p0 := pw2_pos 0
  have := pw2_lt (a := bE b) (b := 54) (by omega) (by omega)
  omega
theorem inr_self (b : Nat) (h1 : 1 ≤ b) (h2 : b < 9218868437227405312) : InR b (bM b * pw2 (bE b) * pw10 0) := by
 obtain ⟨f1, f2, f3, f4, f5, _⟩ := bM_facts b h1 h2
 have e : pw2 (bE b) = pw2 (bE b - 2) * 2 ^ 2 := pw2_step _ _ _ (by omega) (by omega)
 have hl : lowQ b < 4 * bM b := by unfold lowQ; split <;> omega
 have X := Nat.mul_pos (pw2_pos (bE b - 2)) (pw10_pos 0)
 have e1 : bM b * pw2 (bE b) * pw10 0 = (4 * bM b) * (pw2 (bE b - 2) * pw10 0) := by rw [e]; grind
 unfold InR
 rw [e1, Nat.mul_assoc (lowQ b), Nat.mul_assoc (4 * bM b + 2)]
 have a1 := Nat.mul_lt_mul_of_pos_right hl X
 have a2 := Nat.mul_lt_mul_of_pos_right (show 4 * bM b < 4 * bM b + 2 by omega) X
 exact ⟨Nat.le_of_lt a1, Nat.le_of_lt a2, fun _ => ⟨a1, a2⟩⟩
theorem inr_whole (b d k : Nat) (h1 : 1 ≤ b) (h2 : b < 9218868437227405312) (e : bM b * pw2 (bE b) = d * 10 ^ k * pw2 0) : InR b (d * pw2 0 * pw10 k) := by
 have h := inr_self b h1 h2
 rw [e] at h
 have e2 : d * 10 ^ k * pw2 0 * pw10 0 = d * pw2 0 * pw10 k := by rw [pw10_step 0 k k (by omega) (by omega)]; grind
 rw [← e2]; exact h
theorem ex_zero (neg : Bool) (b0 b d : Nat) (h1 : 1 ≤ b) (h2 : b < 9218868437227405312) (hd : 1 ≤ d) (e : double.nearest neg d 0 = double.word neg b0) (hr : InR b (d * pw2 0 * pw10 0)) : double.word neg b0 = double.word neg b := by
 obtain ⟨r1, r2, r3⟩ := inr_up b d 0 hr
 rw [Nat.pow_zero, Nat.mul_one] at r1 r2 r3
 rw [← e]
 exact nearest_of neg b d 0 h1 h2 (by omega) (by omega) (by omega) r1 r2 r3
theorem mul_some (s t : Bool) (a c : Nat) (ha : a < 9218868437227405312) (hc : c < 9218868437227405312) : ∃ r, double.mul (double.word s a) (double.word t c) = some (double.word (s ^^ t) r) ∧ r ≤ 9218868437227405312 ∧
  double.nearest (s ^^ t) (bM a * bM c) (bE a + bE c) = double.word (s ^^ t) r := by
 unfold Format.mul
 rw [read_word s a ha, read_word t c hc]
 show ∃ r, some (double.nearest (s ^^ t) (bM a * bM c) (bE a + bE c)) = _ ∧ _
 unfold Format.nearest
 split
 ·exact ⟨0, rfl, by omega, rfl⟩
 ·refine ⟨_, rfl, ?_, rfl⟩
  rw [inf_eq]
  exact Nat.min_le_right _ _
theorem div_some (s t : Bool) (a c : Nat) (ha : a < 9218868437227405312) (hc1 : 1 ≤ c) (hc : c < 9218868437227405312) : ∃ r, double.div (double.word s a) (double.word t c) = some r := by
 obtain ⟨f1, _⟩ := bM_facts c hc1 hc
 unfold Format.div
 rw [read_word s a ha, read_word t c hc]
 show ∃ r, Option.map double.write (if bM c = 0 then (if bM a = 0 then none else some (Datum.infinity (s ^^ t))) else some _) = some r
 rw [if_neg (by omega)]
 exact ⟨_, rfl⟩
theorem rung_big (Q K r : Nat) (hQ : 1075 ≤ Q) (hK : 4503599627370496 ≤ K) (e : min (Q * 4503599627370496 + K) 9218868437227405312 = r) : 4845873199050653696 ≤ r := by
 have hq := Nat.mul_le_mul_right 4503599627370496 hQ
 have h5 := Nat.add_le_add hq hK
 rw [← e]
 exact Nat.le_min.2 ⟨h5, by decide⟩
theorem big_rung (neg : Bool) (mag : Nat) (place : Int) (hm : mag ≠ 0) (hp0 : -1000 ≤ place) (hp1 : place ≤ 1000) (h : 9007199254740992 * pw2 0 ≤ mag * pw2 place) (r : Nat) (_hr : r ≤ 9218868437227405312) (e : double.nearest neg mag place = double.word neg r) : 4845873199050653696 ≤ r := by
 have hL1 := Nat.log2_self_le hm
 have hL2 := Nat.lt_log2_self (n := mag)
 have k : 53 ≤ place + (mag.log2 : Int) := by
  have c1 : pw2 (place + mag.log2 + 1) = pw2 place * 2 ^ (mag.log2 + 1) := pw2_step _ _ _ (by omega) (by omega)
  have c2 : pw2 (53 : Int) = pw2 0 * 2 ^ 53 := pw2_step _ _ _ (by omega) (by omega)
  have c3 : mag * pw2 place < 2 ^ (mag.log2 + 1) * pw2 place := Nat.mul_lt_mul_of_pos_right hL2 (pw2_pos _)
  rw [show (2 : Nat) ^ 53 = 9007199254740992 by decide] at c2
  have := pw2_lt (a := (53 : Int)) (b := place + (mag.log2 : Int) + 1) (by omega) (by rw [c1, c2, Nat.mul_comm (pw2 place), Nat.mul_comm (pw2 0)]; omega)
  omega
 rw [word_eq] at e
 unfold Format.nearest at e
 rw [if_neg hm] at e
 simp only [least_eq, binade_eq, inf_eq, frac_eq, word_eq] at e
 have hlast : max (place + (mag.log2 : Int) - (52 : Nat)) (-1074) = place + (mag.log2 : Int) - 52 := by omega
 rw [hlast] at e
 have hc : 4503599627370496 ≤ Toward.even.cut neg (mag <<< (place - (place + (mag.log2 : Int) - 52)).toNat) (place + (mag.log2 : Int) - 52 - place).toNat := by
  unfold Toward.cut
  simp only [Nat.shiftLeft_eq, Nat.one_mul]
  refine Nat.le_trans ?_ (Nat.le_add_right _ _)
  rcases Nat.lt_or_ge mag.log2 52 with g | g
  ·rw [show (place + (mag.log2 : Int) - 52 - place).toNat = 0 by omega, Nat.zero_min, Nat.pow_zero, Nat.div_one]
   have := Nat.mul_le_mul_right (2 ^ (place - (place + (mag.log2 : Int) - 52)).toNat) hL1
   rw [← Nat.pow_add, show mag.log2 + (place - (place + (mag.log2 : Int) - 52)).toNat = 52 by omega] at this
   omega
  ·rw [show (place - (place + (mag.log2 : Int) - 52)).toNat = 0 by omega, Nat.pow_zero, Nat.mul_one, show (place + (mag.log2 : Int) - 52 - place).toNat = mag.log2 - 52 by omega, Nat.min_eq_left (by omega), Nat.le_div_iff_mul_le (Nat.two_pow_pos _)]
   rw [show (4503599627370496 : Nat) = 2 ^ 52 by decide, ← Nat.pow_add, show 52 + (mag.log2 - 52) = mag.log2 by omega]
   exact hL1
 obtain ⟨K, hK⟩ : ∃ K, Toward.even.cut neg (mag <<< (place - (place + (mag.log2 : Int) - 52)).toNat) (place + (mag.log2 : Int) - 52 - place).toNat = K := ⟨_, rfl⟩
 obtain ⟨Q, hQ⟩ : ∃ Q, (place + (mag.log2 : Int) - 52 - -1074).toNat = Q := ⟨_, rfl⟩
 rw [hK] at hc e
 rw [hQ] at e
 have hQ2 : 1075 ≤ Q := by omega
 clear hK hQ hlast hL1 hL2 h k
 have e2 := Nat.add_left_cancel e
 exact rung_big Q K r hQ2 hc e2
theorem lt_big (neg : Bool) (r : Nat) (h : 4845873199050653696 ≤ r) (h2 : r ≤ 9218868437227405312) : Flt.lt 4831355200913801216 (double.word neg r) = true ∨ Flt.lt (double.word neg r) 14054727237768577024 = true := by
 have c1 : Flt.nan 4831355200913801216 = false ∧ Flt.sk 4831355200913801216 = 4831355200913801216 := by decide +kernel
 have c2 : Flt.nan 14054727237768577024 = false ∧ Flt.sk 14054727237768577024 = -4831355200913801216 := by decide +kernel
 have p63 : (2 : Nat) ^ 63 = 9223372036854775808 := by decide
 rw [word_eq]
 have hrg : Flt.rung (sgN neg + r) = r := by
  unfold Flt.rung sgN
  rw [p63]
  split <;> omega
 have hnn : Flt.nan (sgN neg + r) = false := by
  unfold Flt.nan
  rw [hrg, decide_eq_false_iff_not, show Flt.inf = 9218868437227405312 by decide]
  omega
 have hng : Flt.neg (sgN neg + r) = neg := by
  unfold Flt.neg sgN
  rw [p63]
  cases neg
  ·rw [if_neg (by decide), Nat.zero_add, Nat.div_eq_of_lt (by omega)]; rfl
  ·rw [if_pos rfl, show (9223372036854775808 + r) / 9223372036854775808 = 1 by omega]; rfl
 have hsk : Flt.sk (sgN neg + r) = if neg then -(r : Int) else (r : Int) := by unfold Flt.sk; rw [hng, hrg]
 unfold Flt.lt
 rw [c1.1, c1.2, c2.1, c2.2, hnn, hsk]
 cases neg
 ·left
  simp only [Bool.not_false, Bool.true_and, Bool.false_eq_true, if_false, decide_eq_true_eq]
  omega
 ·right
  simp only [Bool.not_false, Bool.true_and, if_true, decide_eq_true_eq]
  omega
theorem ex_mul (neg : Bool) (b0 b d k : Nat) (hk : k < 23) (h1 : 1 ≤ b) (h2 : b < 9218868437227405312) (a1 : 1 ≤ b0) (a2 : b0 < 9218868437227405312) (hd : 1 ≤ d) (hd2 : d ≤ 9007199254740992) (e : bM b0 * pw2 (bE b0) = d * pw2 0) (hr : InR b (d * pw2 0 * pw10 k)) :
  double.mul (double.word neg b0) (tn k) = some (double.word neg b) := by
 obtain ⟨t1, t2, t3, t4, t5⟩ := tens_ok k hk
 obtain ⟨q1, q2⟩ := exact_bds b0 d a1 a2 hd hd2 e
 have h := mul_word neg false b0 (tn k) b d k h1 h2 a1 a2 t1 t2 e t3 (by omega) (by omega) (by omega) (by omega) hr
 rw [word_eq false] at h
 simpa [sgN] using h
theorem ex_div (neg : Bool) (b0 b d k : Nat) (hk : k < 23) (h1 : 1 ≤ b) (h2 : b < 9218868437227405312) (a1 : 1 ≤ b0) (a2 : b0 < 9218868437227405312) (hd : 1 ≤ d) (hd2 : d ≤ 9007199254740992) (e : bM b0 * pw2 (bE b0) = d * pw2 0) (hr : InR b (d * pw2 0 * pw10 (-(k : Int)))) :
  double.div (double.word neg b0) (tn k) = some (double.word neg b) := by
 obtain ⟨t1, t2, t3, t4, t5⟩ := tens_ok k hk
 obtain ⟨q1, q2⟩ := exact_bds b0 d a1 a2 hd hd2 e
 have h := div_word neg false b0 (tn k) b d k h1 h2 a1 a2 t1 t2 (by omega) e t3 (by omega) (by omega) (by omega) (by omega) hr
 rw [word_eq false] at h
 simpa [sgN] using h
theorem ex_mul2 (neg : Bool) (b0 d k H : Nat) (hk : k < 16) (a1 : 1 ≤ b0) (a2 : b0 < 9218868437227405312) (hd : 1 ≤ d) (hd2 : d ≤ 9007199254740992) (e : bM b0 * pw2 (bE b0) = d * pw2 0) (hH : double.mul (double.word neg b0) (tn k) = some H)
  (l1 : Flt.lt 4831355200913801216 H = false) (l2 : Flt.lt H 14054727237768577024 = false) : (∃ r, double.mul H (tn 22) = some r) ∧ ∀ b r, 1 ≤ b → b < 9218868437227405312 → InR b (d * pw2 0 * pw10 ((k + 22 : Nat) : Int)) → double.mul H (tn 22) = some r → r = double.word neg b := by
 obtain ⟨t1, t2, t3, t4, t5⟩ := tens_ok k (by omega)
 obtain ⟨q1, q2⟩ := exact_bds b0 d a1 a2 hd hd2 e
 obtain ⟨r, m1, m2, m3⟩ := mul_some neg false b0 (tn k) a2 t2
 have hw : double.word false (tn k) = tn k := by rw [word_eq]; simp [sgN]
 rw [hw, Bool.xor_false] at m1
 rw [Bool.xor_false] at m3
 rw [hH] at m1
 have hHr := Option.some.inj m1
 have hval : bM b0 * bM (tn k) * pw2 (bE b0 + bE (tn k)) = d * 10 ^ k * pw2 0 := by
  have q := pw2_split (bE b0) (bE (tn k)) _ rfl (by omega) (by omega)
  have P := pw2_pos 0
  refine Nat.eq_of_mul_eq_mul_right P ?_
  rw [Nat.mul_assoc (bM b0 * bM (tn k)), ← q, show bM b0 * bM (tn k) * (pw2 (bE b0) * pw2 (bE (tn k))) = (bM b0 * pw2 (bE b0)) * (bM (tn k) * pw2 (bE (tn k))) by grind, e, t3]; grind
 have hsm : d * 10 ^ k ≤ 9007199254740992 := by
  rcases Nat.lt_or_ge 9007199254740992 (d * 10 ^ k) with g | g
  ·exfalso
   obtain ⟨f1, _⟩ := bM_facts b0 a1 a2
   obtain ⟨f2, _⟩ := bM_facts (tn k) t1 t2
   have hb := big_rung neg (bM b0 * bM (tn k)) (bE b0 + bE (tn k)) (Nat.ne_of_gt (Nat.mul_pos f1 f2)) (by omega) (by omega) (by rw [hval]; exact Nat.mul_le_mul_right _ (Nat.le_of_lt g)) r m2 m3
   rcases lt_big neg r hb m2 with q | q
   ·rw [← hHr, l1] at q; cases q
   ·rw [← hHr, l2] at q; cases q
  ·exact g
 have hd3 : 1 ≤ d * 10 ^ k := Nat.mul_pos hd (Nat.pow_pos (by decide))
 obtain ⟨b1, x1, x2, x3, x4⟩ := exact_word neg (d * 10 ^ k) hd3 hsm
 have hH2 := ex_mul neg b0 b1 d k (by omega) x1 x2 a1 a2 hd hd2 e (inr_whole b1 d k x1 x2 x4)
 rw [hH] at hH2
 have hHb := Option.some.inj hH2
 obtain ⟨u1, u2, u3, u4, u5⟩ := tens_ok 22 (by decide)
 have hw2 : double.word false (tn 22) = tn 22 := by rw [word_eq]; simp [sgN]
 refine ⟨?_, ?_⟩
 ·obtain ⟨r2, n1, _, _⟩ := mul_some neg false b1 (tn 22) x2 u2
  rw [hw2] at n1
  rw [hHb]
  exact ⟨_, n1⟩
 ·intro b r2 h1 h2 hr hm
  have e2 : d * pw2 0 * pw10 ((k + 22 : Nat) : Int) = (d * 10 ^ k) * pw2 0 * pw10 ((22 : Nat) : Int) := by
   rw [pw10_step ((22 : Nat) : Int) ((k + 22 : Nat) : Int) k (by omega) (by omega)]; grind
  rw [e2] at hr
  have h3 := ex_mul neg b1 b (d * 10 ^ k) 22 (by decide) h1 h2 x1 x2 hd3 hsm x4 hr
  rw [hHb] at hm
  rw [hm] at h3
  exact Option.some.inj h3
end Go.Proofs.YtnccpddjdgndcaaGreatDoor.Pf
end

section
/- THE WALK OF strconv.atof64exact. -/
namespace Go.Proofs.YtnccpddjdgndcaaGreatDoor.Pf
open Go.RowKit Go.Proofs.YtnccpddjdgndcaaGreatDoor.Fmt Go.Proofs.YtnccpddjdgndcaaGreatDoor.Nt Ieee
structure PfW (w : World) : Prop where
 opt : w.cell? ⟨7, 0, none⟩ = some (.bool true)
 inf : w.cell? ⟨10, 0, none⟩ = some (.int .u64 52)
 pow : ∃ R o c : Nat, w.cell? ⟨13, 0, none⟩ = some (.slice (some ⟨R, o, none⟩) 23 c) ∧ ∀ k, k < 23 → w.cell? ⟨R, o + k, none⟩ = some (.float .f64 (tn k))
theorem PfW.below {w w' : World} {B : Nat} (h : PfW w) (hb : Below B w w') (hB : w.heap.size ≤ B) : PfW w' := by
 obtain ⟨h1, h2, R, o, c, h3, h4⟩ := h
 exact ⟨Tab.cell_below hb hB h1, Tab.cell_below hb hB h2, R, o, c, Tab.cell_below hb hB h3, fun k hk => Tab.cell_below hb hB (h4 k hk)⟩
theorem run_mul (x y r : Nat) (h : double.mul x y = some r) (w : World) : (binOp .mul 23 (.float .f64 x) (.float .f64 y)).run Tryz.prog w = .ok (.float .f64 r) w := by
 have h2 : FloatKind.f64.format.mul x y = some r := h
 simp [binOp, Op.floatArith, h2]
theorem run_quo (x y r : Nat) (h : double.div x y = some r) (w : World) : (binOp .quo 23 (.float .f64 x) (.float .f64 y)).run Tryz.prog w = .ok (.float .f64 r) w := by
 have h2 : FloatKind.f64.format.div x y = some r := h
 simp [binOp, Op.floatArith, h2]
theorem ford_lt (a b : Nat) : (FloatKind.f64.format.order a b == some .lt) = Flt.lt a b := Flt.order_lt a b
theorem ford_gt (a b : Nat) : (FloatKind.f64.format.order a b == some .gt) = Flt.lt b a := Flt.order_gt a b
theorem un_neg (b : Nat) : Op.unary .neg (.float .f64 b) = pure (.float .f64 (Op.negFloat .f64 b)) := rfl
attribute [local go_sem] ford_lt ford_gt un_neg
theorem negF (b : Nat) (h : b < 9223372036854775808) : Op.negFloat .f64 b = sgN true + b := by
 unfold Op.negFloat
 have e : (2 : Nat) ^ (FloatKind.f64.format.exponentBits + FloatKind.f64.format.fractionBits) = 2 ^ 63 := by decide
 rw [e, show sgN true = 2 ^ 63 by decide]
 have h2 := Nat.two_pow_add_eq_or_of_lt (i := 63) (b := b) (by rw [show (2 : Nat) ^ 63 = 9223372036854775808 by decide]; exact h) 1
 rw [Nat.mul_one] at h2
 rw [h2]
 apply Nat.eq_of_testBit_eq
 intro i
 rw [Nat.testBit_xor, Nat.testBit_or, Nat.testBit_two_pow]
 by_cases hi : 63 = i
 ·subst hi
  have : b.testBit 63 = false := Nat.testBit_lt_two_pow (by rw [show (2 : Nat) ^ 63 = 9223372036854775808 by decide]; exact h)
  rw [this]; simp
 ·simp [hi]
theorem write_lt (d : Ieee.Datum) : double.write d < 18446744073709551616 := by
 have hw : ∀ (s : Bool) (r : Nat), r < 9223372036854775808 → double.word s r < 18446744073709551616 := fun s r hr => by
  rw [word_eq]
  have : sgN s ≤ 9223372036854775808 := by cases s <;> decide
  omega
 cases d with
 | number s m p =>
  show double.nearest s m p < _
  unfold Format.nearest
  split
  ·exact hw _ _ (by decide)
  ·refine hw _ _ (Nat.lt_of_le_of_lt (Nat.min_le_right _ _) ?_)
   rw [inf_eq]; decide
 | infinity s => exact hw _ _ (by rw [inf_eq]; decide)
 | nan s f =>
  refine hw _ _ ?_
  rw [inf_eq]
  have h1 : double.binade = 4503599627370496 := by decide
  rw [h1]
  have := Nat.mod_lt f (show 0 < 4503599627370496 by decide)
  omega
theorem mul_lt {x y r : Nat} (h : double.mul x y = some r) : r < 18446744073709551616 := by
 unfold Format.mul at h
 rw [Option.map_eq_some_iff] at h
 obtain ⟨d, _, e⟩ := h
 rw [← e]; exact write_lt d
theorem div_lt {x y r : Nat} (h : double.div x y = some r) : r < 18446744073709551616 := by
 unfold Format.div at h
 rw [Option.map_eq_some_iff] at h
 obtain ⟨d, _, e⟩ := h
 rw [← e]; exact write_lt d
def ExP (d : Nat) (p : Int) (ng : Bool) (e : Ending) : Prop :=
 ∃ (x : Nat) (ok : Bool), e = .returned (.tuple #[.float .f64 x, .bool ok]) ∧ x < 18446744073709551616 ∧ (ok = true → ∀ b, 1 ≤ b → b < 9218868437227405312 → InR b (d * pw2 0 * pw10 p) → x = double.word ng b)
set_option maxRecDepth 20000 in
set_option maxHeartbeats 2000000 in
theorem exact_any (d : Nat) (p : Int) (ng : Bool) (hd : 1 ≤ d) (hd2 : d < 18446744073709551616) (hp0 : -1000 ≤ p) (hp1 : p ≤ 1000) (w : World) (hw : PfW w) :
  Calls Tryz.prog 158 #[.int .u64 d, .int .i64 p, .bool ng] w fun e w' => ExP d p ng e ∧ w = w' := by
 obtain ⟨_, hi, R, o, c, hs, ht⟩ := hw
 by_cases hbig : 4503599627370496 ≤ d
 ·have h1 : ((d : Int) / 4503599627370496 != 0) = true := by simp; omega
  clear ht hs
  go_enter Tryz.func158, Tryz.ntmps158
  go_wp2
  refine bodyPost_ret (v := .tuple #[.float .f64 0, .bool false]) (by simp [results, Tryz.results158, go_sem]; try rfl) rfl ?_
  exact ⟨⟨_, false, rfl, (by first | decide | exact HFB.out | exact HGB.out | exact HHB.out), fun h => absurd h (by decide)⟩, rfl⟩
 have h1 : ((d : Int) / 4503599627370496 != 0) = false := by
  have : (d : Int) / 4503599627370496 = 0 := by omega
  rw [this]; rfl
 obtain ⟨b0, a1, a2, a3, a4⟩ := exact_word false d hd (by omega)
 have hfl : floatOfInt .f64 (d : Int) = b0 := by
  have e : floatOfInt .f64 (d : Int) = double.nearest false d 0 := by
   show double.nearest (decide ((d : Int) < 0)) ((d : Int).natAbs) 0 = _
   rw [decide_eq_false (by omega)]; rfl
  rw [e, a3, word_eq]; simp [sgN]
 have hng : Op.negFloat .f64 b0 = sgN true + b0 := negF b0 (by omega)
 obtain ⟨F, hF⟩ : ∃ F, sgN ng + b0 = F := ⟨_, rfl⟩
 have hFw : double.word ng b0 = F := by rw [word_eq, hF]
 have hFb : F < 18446744073709551616 := by
  rw [← hF]
  have : sgN ng ≤ 9223372036854775808 := by cases ng <;> decide
  omega
 have HFB := Lib.hid hFb
 clear hFb
 have hF2 : (if ng then Op.negFloat .f64 b0 else b0) = F := by
  rw [← hF, hng]; cases ng <;> simp [sgN]
 have hdd : d ≤ 9007199254740992 := by omega
 have hn : double.nearest ng d 0 = double.word ng b0 := by
  obtain ⟨b1, x1, x2, x3, x4⟩ := exact_word ng d hd hdd
  have := ex_zero ng b1 b0 d a1 a2 hd x3 (by
   have := inr_whole b0 d 0 a1 a2 (by rw [Nat.pow_zero, Nat.mul_one]; exact a4)
   exact this)
  rw [x3, this]
 have hmul := fun k (hk : k < 23) => mul_some ng false b0 (tn k) a2 (tens_ok k hk).2.1
 have hdiv := fun k (hk : k < 23) => div_some ng false b0 (tn k) a2 (tens_ok k hk).1 (tens_ok k hk).2.1
 have hw0 : ∀ k, double.word false (tn k) = tn k := fun k => by rw [word_eq]; simp [sgN]
 have E0 := fun b (h1 : 1 ≤ b) (h2 : b < 9218868437227405312) (hr : InR b (d * pw2 0 * pw10 0)) => ex_zero ng b0 b d h1 h2 hd hn hr
 have E1 := fun b (k : Nat) (hk : k < 23) (h1 : 1 ≤ b) (h2 : b < 9218868437227405312) (hr : InR b (d * pw2 0 * pw10 (k : Int))) => ex_mul ng b0 b d k hk h1 h2 a1 a2 hd hdd a4 hr
 have E2 := fun b (k : Nat) (hk : k < 23) (h1 : 1 ≤ b) (h2 : b < 9218868437227405312) (hr : InR b (d * pw2 0 * pw10 (-(k : Int)))) => ex_div ng b0 b d k hk h1 h2 a1 a2 hd hdd a4 hr
 have E3 := fun k H (hk : k < 16) (hH : double.mul (double.word ng b0) (tn k) = some H) (l1 : Flt.lt 4831355200913801216 H = false) (l2 : Flt.lt H 14054727237768577024 = false) => ex_mul2 ng b0 d k H hk a1 a2 hd hdd a4 hH l1 l2
 simp only [hw0, hFw] at hmul hdiv E0 E1 E2 E3
 have HM := Lib.hid hmul; have HD := Lib.hid hdiv; have H0 := Lib.hid E0; have H1 := Lib.hid E1; have H2 := Lib.hid E2; have H3 := Lib.hid E3; have HT := Lib.hid ht
 clear hmul hdiv hw0 E0 E1 E2 E3 ht hn a3 a4 hFw hng
 have hstart : (if ng then Op.negFloat .f64 b0 else b0) = F := hF2
 clear hF2 hF hdd hbig
 have HST := Lib.hid hstart
 clear hstart
 have go : ∀ (q : Unit), Calls Tryz.prog 158 #[.int .u64 d, .int .i64 p, .bool ng] w fun e w' => ExP d p ng e ∧ w = w' := by
  intro _
  by_cases p0 : p = 0
  ·subst p0
   cases ng
   all_goals
    have hst := HST.out
    simp only [Bool.false_eq_true, if_false, if_true] at hst
    go_enter Tryz.func158, Tryz.ntmps158
    go_wp2
    refine bodyPost_ret (v := .tuple #[.float .f64 F, .bool true]) (by simp [results, Tryz.results158, go_sem]; try rfl) rfl ?_
    exact ⟨⟨_, true, rfl, (by first | decide | exact HFB.out | exact HGB.out | exact HHB.out), fun _ b h1 h2 hr => H0.out b h1 h2 hr⟩, rfl⟩
  have pb0 : (p == 0) = false := by simpa using p0
  by_cases pp : 0 < p ∧ p ≤ 37
  ·obtain ⟨pp1, pp2⟩ := pp
   by_cases p22 : 22 < p
   ·obtain ⟨k, rfl⟩ : ∃ k : Nat, p = (k : Int) + 22 := ⟨(p - 22).toNat, by omega⟩
    have hk : k < 16 := by omega
    obtain ⟨r, m1, m2, m3⟩ := HM.out k (by omega)
    rw [Bool.xor_false] at m1
    obtain ⟨H, hH⟩ : ∃ H, double.word ng r = H := ⟨_, rfl⟩
    rw [hH] at m1
    have HHB := Lib.hid (mul_lt m1)
    have rm := fun W => run_mul F (tn k) H m1 W
    have hc := HT.out k (by omega)
    have hc22 := HT.out 22 (by decide)
    have k1 : (0 : Int) ≤ (k : Int) := by omega
    have k2 : (k : Int) < 23 := by omega
    have M1 := Lib.hid m1
    clear m1 m2 m3 hH
    cases l1 : Flt.lt 4831355200913801216 H
    ·cases l2 : Flt.lt H 14054727237768577024
     ·obtain ⟨⟨G, g1⟩, g2⟩ := H3.out k H hk M1.out l1 l2
      have rm2 := fun W => run_mul H (tn 22) G g1 W
      have HGB := Lib.hid (mul_lt g1)
      have G1 := Lib.hid g1; have G2 := Lib.hid g2
      clear g1 g2
      cases ng
      all_goals
       have hst := HST.out
       simp only [Bool.false_eq_true, if_false, if_true] at hst
       go_enter Tryz.func158, Tryz.ntmps158
       go_wp2
       refine bodyPost_ret (v := .tuple #[.float .f64 G, .bool true]) (by simp [results, Tryz.results158, go_sem]; try rfl) rfl ?_
       exact ⟨⟨_, true, rfl, (by first | decide | exact HFB.out | exact HGB.out | exact HHB.out), fun _ b h1 h2 hr => G2.out b G h1 h2 hr G1.out⟩, rfl⟩
     ·cases ng
      all_goals
       have hst := HST.out
       simp only [Bool.false_eq_true, if_false, if_true] at hst
       go_enter Tryz.func158, Tryz.ntmps158
       go_wp2
       refine bodyPost_ret (v := .tuple #[.float .f64 H, .bool false]) (by simp [results, Tryz.results158, go_sem]; try rfl) rfl ?_
       exact ⟨⟨_, false, rfl, (by first | decide | exact HFB.out | exact HGB.out | exact HHB.out), fun h => absurd h (by decide)⟩, rfl⟩
    ·cases ng
     all_goals
      have hst := HST.out
      simp only [Bool.false_eq_true, if_false, if_true] at hst
      go_enter Tryz.func158, Tryz.ntmps158
      go_wp2
      refine bodyPost_ret (v := .tuple #[.float .f64 H, .bool false]) (by simp [results, Tryz.results158, go_sem]; try rfl) rfl ?_
      exact ⟨⟨_, false, rfl, (by first | decide | exact HFB.out | exact HGB.out | exact HHB.out), fun h => absurd h (by decide)⟩, rfl⟩
   ·obtain ⟨k, rfl⟩ : ∃ k : Nat, p = (k : Int) := ⟨p.toNat, by omega⟩
    obtain ⟨r, m1, m2, m3⟩ := HM.out k (by omega)
    rw [Bool.xor_false] at m1
    obtain ⟨G, hG⟩ : ∃ G, double.word ng r = G := ⟨_, rfl⟩
    rw [hG] at m1
    have HGB := Lib.hid (mul_lt m1)
    have rm := fun W => run_mul F (tn k) G m1 W
    have hc := HT.out k (by omega)
    have k1 : (0 : Int) ≤ (k : Int) := by omega
    have k2 : (k : Int) < 23 := by omega
    have k4 : 0 < k := by omega
    have k5 : ¬ (22 : Int) < (k : Int) := by omega
    have M1 := Lib.hid m1
    clear m1 m2 m3 hG
    cases l1 : Flt.lt 4831355200913801216 F
    ·cases l2 : Flt.lt F 14054727237768577024
     ·cases ng
      all_goals
       have hst := HST.out
       simp only [Bool.false_eq_true, if_false, if_true] at hst
       go_enter Tryz.func158, Tryz.ntmps158
       go_wp2
       refine bodyPost_ret (v := .tuple #[.float .f64 G, .bool true]) (by simp [results, Tryz.results158, go_sem]; try rfl) rfl ?_
       exact ⟨⟨_, true, rfl, (by first | decide | exact HFB.out | exact HGB.out | exact HHB.out), fun _ b h1 h2 hr => by have q := H1.out b k (by omega) h1 h2 hr; rw [M1.out] at q; exact Option.some.inj q⟩, rfl⟩
     ·cases ng
      all_goals
       have hst := HST.out
       simp only [Bool.false_eq_true, if_false, if_true] at hst
       go_enter Tryz.func158, Tryz.ntmps158
       go_wp2
       refine bodyPost_ret (v := .tuple #[.float .f64 F, .bool false]) (by simp [results, Tryz.results158, go_sem]; try rfl) rfl ?_
       exact ⟨⟨_, false, rfl, (by first | decide | exact HFB.out | exact HGB.out | exact HHB.out), fun h => absurd h (by decide)⟩, rfl⟩
    ·cases ng
     all_goals
      have hst := HST.out
      simp only [Bool.false_eq_true, if_false, if_true] at hst
      go_enter Tryz.func158, Tryz.ntmps158
      go_wp2
      refine bodyPost_ret (v := .tuple #[.float .f64 F, .bool false]) (by simp [results, Tryz.results158, go_sem]; try rfl) rfl ?_
      exact ⟨⟨_, false, rfl, (by first | decide | exact HFB.out | exact HGB.out | exact HHB.out), fun h => absurd h (by decide)⟩, rfl⟩
  ·by_cases pn : p < 0 ∧ -22 ≤ p
   ·obtain ⟨k, rfl⟩ : ∃ k : Nat, p = -(k : Int) := ⟨(-p).toNat, by omega⟩
    obtain ⟨pn1, pn2⟩ := pn
    obtain ⟨G, m1⟩ := HD.out k (by omega)
    have HGB := Lib.hid (div_lt m1)
    have rm := fun W => run_quo F (tn k) G m1 W
    have hc := HT.out k (by omega)
    have k1 : (0 : Int) ≤ (k : Int) := by omega
    have k2 : (k : Int) < 23 := by omega
    have k3 : ¬ (0 : Int) < -(k : Int) := by omega
    have k4 : 0 < k := by omega
    have k5 : (k : Int) ≤ 22 := by omega
    have k6 : k ≤ 22 := by omega
    have k7 : ¬ (k : Int) < 0 := by omega
    have M1 := Lib.hid m1
    clear m1 pp
    cases ng
    all_goals
     have hst := HST.out
     simp only [Bool.false_eq_true, if_false, if_true] at hst
     go_enter Tryz.func158, Tryz.ntmps158
     go_wp2
     refine bodyPost_ret (v := .tuple #[.float .f64 G, .bool true]) (by simp [results, Tryz.results158, go_sem]; try rfl) rfl ?_
     exact ⟨⟨_, true, rfl, (by first | decide | exact HFB.out | exact HGB.out | exact HHB.out), fun _ b h1 h2 hr => by have q := H2.out b k (by omega) h1 h2 hr; rw [M1.out] at q; exact Option.some.inj q⟩, rfl⟩
   ·have hc : (0 < p ∧ ¬ p ≤ 37) ∨ (¬ 0 < p ∧ p < 0 ∧ ¬ -22 ≤ p) := by omega
    clear pp pn
    rcases hc with ⟨c1, c2⟩ | ⟨c1, c2, c3⟩
    ·have c3 : ¬ p < 0 := by omega
     cases ng
     all_goals
      have hst := HST.out
      simp only [Bool.false_eq_true, if_false, if_true] at hst
      go_enter Tryz.func158, Tryz.ntmps158
      go_wp2
      refine bodyPost_ret (v := .tuple #[.float .f64 F, .bool false]) (by simp [results, Tryz.results158, go_sem]; try rfl) rfl ?_
      exact ⟨⟨_, false, rfl, (by first | decide | exact HFB.out | exact HGB.out | exact HHB.out), fun h => absurd h (by decide)⟩, rfl⟩
    ·cases ng
     all_goals
      have hst := HST.out
      simp only [Bool.false_eq_true, if_false, if_true] at hst
      go_enter Tryz.func158, Tryz.ntmps158
      go_wp2
      refine bodyPost_ret (v := .tuple #[.float .f64 F, .bool false]) (by simp [results, Tryz.results158, go_sem]; try rfl) rfl ?_
      exact ⟨⟨_, false, rfl, (by first | decide | exact HFB.out | exact HGB.out | exact HHB.out), fun h => absurd h (by decide)⟩, rfl⟩
 exact go ()
end Go.Proofs.YtnccpddjdgndcaaGreatDoor.Pf
end

section
/- ALL THE TABLES AND WORDS THAT value.Read READS, as a row lays them. -/
namespace Go.Proofs.YtnccpddjdgndcaaGreatDoor.Pf
open Go.RowKit Go.Lib
theorem trod_iface {H : Type} {enc : TypeId × Value → H} {P : Program} {w : World} {base : Nat} {spare : Nat → Bool} {held : Bool} {fuel : Nat} {t : TypeId} {cs : List Value} {x : DataW H × List MemPlace} {nm : String} {d : DataW H}
    (ht : (∃ m, P.underlying t = some (.interface m))) (h : DataW.trod enc P w base spare held fuel t cs = some x) (hx : x.1 = .iface nm d) : ∃ u v, cs = [.iface u v] := by
  obtain ⟨m, ht⟩ := ht
  cases fuel with
  | zero => simp [DataW.trod] at h
  | succ n =>
    unfold DataW.trod at h
    rw [ht] at h
    split at h <;> simp_all
    subst h
    cases hx
theorem err_of_reads {P : Program} {w : World} {name nm : String} {g : Nat} {t : TypeId} {d : DataW Unit} (hn : P.globalNamed name = some g) (hy : (P.globals[g]?).map (·.type) = some t) (ht : ∃ m, P.underlying t = some (.interface m))
    (h : VarReads P w name (.iface nm d)) : ∃ u v, w.cell? ⟨g, 0, none⟩ = some (.iface u v) := by
  obtain ⟨g', t', cs, fuel, p, hg, hty, hvar, hd⟩ := h
  obtain rfl := Option.some.inj (hn.symm.trans hg)
  obtain rfl := Option.some.inj (hy.symm.trans hty)
  obtain ⟨u, v, hb⟩ := trod_iface ht hd rfl
  refine ⟨u, v, ?_⟩
  rw [World.var?_cell hn hvar 0, ← Array.getElem?_toList, hb]; rfl
structure PwLists (l : List (String × DataW Unit)) : Prop where
  plain : (l.all fun x => x.2.handleName?.isNone) = true
  f1 : l.find? (fun x => x.1 == "internal/strconv.optimize") = some ("internal/strconv.optimize", .lit (.bool true))
  f2 : ∃ ds, l.find? (fun x => x.1 == "internal/strconv.float64info") = some ("internal/strconv.float64info", .agg (.lit (.int .u64 52) :: ds))
  f3 : ∃ ds, l.find? (fun x => x.1 == "internal/strconv.float64pow10") = some ("internal/strconv.float64pow10", .slice ds []) ∧ ds = tens.map (fun z => .lit (.float .f64 z))
  f4 : ∃ nm d, l.find? (fun x => x.1 == "strconv.ErrSyntax") = some ("strconv.ErrSyntax", .iface nm d)
theorem tens_at (k : Nat) (hk : k < 23) : tens[k]? = some (tn k) := by
  unfold tn
  rw [List.getD_eq_getElem?_getD]
  cases h : tens[k]? with
  | none => exact absurd (List.getElem?_eq_none_iff.1 h) (by have : tens.length = 23 := by decide
                                                             omega)
  | some v => rfl
theorem pw_of {l : List (String × DataW Unit)} {W : World} (L : PwLists l) (h : laidMetH Tryz.prog l W) : PfW W ∧ Unq.ErrS W := by
  rw [MakeChecks.laidMetH_plain _ _ _ L.plain] at h
  obtain ⟨ds, f2⟩ := L.f2
  obtain ⟨ds3, f3, f4⟩ := L.f3
  obtain ⟨nm, d, f5⟩ := L.f4
  have hlen : ds3.length = 23 := by rw [f4, List.length_map]; decide
  have hat : ∀ k, k < 23 → ds3[k]? = some (.lit (.float .f64 (tn k))) := fun k hk => by rw [f4, List.getElem?_map, tens_at k hk]; rfl
  have hall := fun k hk => floats_of_reads (g := 13) (by kernel_rfl) (by kernel_rfl) Tryz.underlying217 Tryz.underlying23 (by kernel_rfl) (hat k hk) (Tab.reads_of h f3)
  obtain ⟨R, o, c, h1, h2⟩ := hall 0 (by decide)
  rw [hlen] at h1
  refine ⟨⟨bool_of_reads (g := 7) (by kernel_rfl) (by kernel_rfl) Tryz.underlying4 (Tab.reads_of h L.f1),
    field0_of_reads (g := 10) (by kernel_rfl) (by kernel_rfl) Tryz.underlying178 rfl rfl (by kernel_rfl) (by kernel_rfl) (Tab.reads_of h f2), R, o, c, h1, fun k hk => ?_⟩, ?_⟩
  · obtain ⟨R2, o2, c2, g1, g2⟩ := hall k hk
    rw [h1] at g1
    simp only [Option.some.injEq, Value.slice.injEq, Addr.mk.injEq] at g1
    obtain ⟨⟨e1, e2, _⟩, _, _⟩ := g1
    rw [← e1, ← e2] at g2
    exact g2
  · exact err_of_reads (g := 1) (by kernel_rfl) (by kernel_rfl) ⟨_, Tryz.underlying52⟩ (Tab.reads_of h f5)
end Go.Proofs.YtnccpddjdgndcaaGreatDoor.Pf
end

section
/- THE DIGITS OF A DECIMAL TEXT TAKE NO MORE THAN NINETEEN PLACES. No walk. -/
namespace Go.Proofs.YtnccpddjdgndcaaGreatDoor.Pf
open Go.RowKit
def RM (r : RS) : Prop := ∃ k : Nat, r.ndm = (k : Int) ∧ k ≤ 19 ∧ 0 ≤ r.m ∧ r.m < ((10 ^ k : Nat) : Int)
theorem p19 {k : Nat} (h : k ≤ 19) : 10 ^ k ≤ 10000000000000000000 := by
 have := Nat.pow_le_pow_right (n := 10) (by decide) h
 rw [show (10 : Nat) ^ 19 = 10000000000000000000 by decide] at this
 exact this
theorem rm_dig (r : RS) (v : Int) (nz : Bool) (h : RM r) (h0 : 0 ≤ v) (h1 : v ≤ 9) : RM (rfDig false v nz r) := by
 obtain ⟨k, a, b, c, d⟩ := h
 unfold rfDig
 by_cases g : r.ndm < mostZ false
 ·rw [if_pos g]
  have g2 : r.ndm < 19 := g
  have hk : k + 1 ≤ 19 := by omega
  have hp := p19 hk
  rw [Nat.pow_succ] at hp
  obtain ⟨P, hP⟩ : ∃ P : Nat, 10 ^ k = P := ⟨_, rfl⟩
  rw [hP] at d hp
  have e1 : IntKind.u64.wrap (r.m * baseZ false) = r.m * 10 := by
   rw [show baseZ false = 10 from rfl, IntKind.wrap_u64]; omega
  have e2 : IntKind.u64.wrap (r.m * 10 + v) = r.m * 10 + v := by rw [IntKind.wrap_u64]; omega
  refine ⟨k + 1, ?_, hk, ?_, ?_⟩
  ·show r.ndm + 1 = _; omega
  ·show 0 ≤ IntKind.u64.wrap (IntKind.u64.wrap (r.m * baseZ false) + v); rw [e1, e2]; omega
  ·show IntKind.u64.wrap (IntKind.u64.wrap (r.m * baseZ false) + v) < _
   rw [e1, e2, Nat.pow_succ, hP]; omega
 ·rw [if_neg g]
  exact ⟨k, a, b, c, d⟩
theorem rm_step (c : UInt8) (r r2 : RS) (h : RM r) (hs : rfStep false (c.toNat : Int) r = some r2) : RM r2 := by
 unfold rfStep at hs
 split at hs
 ·cases hs; exact h
 ·split at hs
  ·split at hs
   ·exact absurd hs (by simp)
   ·cases hs; exact h
  ·split at hs
   ·rename_i g
    split at hs
    ·cases hs; exact h
    ·cases hs; exact rm_dig r _ _ h (by omega) (by omega)
   ·rw [if_neg (by simp)] at hs
    exact absurd hs (by simp)
theorem rm_go : ∀ (l : List UInt8) (r : RS), RM r → RM (rfGo false l r).1
 | [], r, h => by rw [rfGo]; exact h
 | c :: l, r, h => by
  rw [rfGo]
  cases g : rfStep false (c.toNat : Int) r with
  | none => exact h
  | some r2 => exact rm_go l r2 (rm_step c r r2 h g)
theorem rm0 : RM rs0 := ⟨0, rfl, by decide, Int.le_refl _, by decide⟩
theorem rm_end (l : List UInt8) (o : RO) (h : rfEnd false (rfGo false l rs0) = some o) : 0 ≤ o.m ∧ o.m < 10000000000000000000 := by
 obtain ⟨k, _, b, c, d⟩ := rm_go l rs0 rm0
 have hp := p19 b
 unfold rfEnd at h
 split at h
 ·exact absurd h (by simp)
 ·simp only at h
  split at h
  ·split at h
   ·exact absurd h (by simp)
   ·cases h; exact ⟨c, by simp only; omega⟩
  ·rw [if_neg (by simp)] at h
   cases h; exact ⟨c, by simp only; omega⟩
theorem u64_bd (a b : Int) : 0 ≤ bits .or .u64 a b ∧ bits .or .u64 a b < 18446744073709551616 := wrap_u64_bd _
theorem nat_bd (z : Int) (h : 0 ≤ z ∧ z < 18446744073709551616) : z.toNat < 18446744073709551616 := by omega
theorem packB_bd (m e : Int) (h0 : 0 ≤ m) (h1 : m < 18446744073709551616) : (packB m e).1.toNat < 18446744073709551616 := by
 unfold packB
 split
 ·omega
 ·split
  ·exact nat_bd _ (u64_bd _ _)
  ·exact nat_bd _ (u64_bd _ _)
theorem pfV_bd (d : Nat) (p sg : Int) (h0 : 0 ≤ sg) (h1 : sg < 18446744073709551616) : (pfV d p sg).1.toNat < 18446744073709551616 := by
 unfold pfV
 split
 ·show sg.toNat < _; omega
 ·split
  ·exact packB_bd _ _ (u64_bd _ _).1 (u64_bd _ _).2
  ·exact packB_bd _ _ (u64_bd _ _).1 (u64_bd _ _).2
def RfA (s : ByteArray) (e : Ending) : Prop :=
 ∃ (d : Nat) (x : Int) (ng tr hex : Bool) (n : Nat) (ok : Bool), e = .returned (.tuple #[.int .u64 (d : Int), .int .i64 x, .bool ng, .bool tr, .bool hex, .int .i64 (n : Int), .bool ok]) ∧ n ≤ s.size ∧ d < 18446744073709551616 ∧ -9000000 ≤ x ∧ x ≤ 9000000 ∧
  (ok = true → hex = false → d + 1 < 18446744073709551616)
theorem rfA_of (s : ByteArray) (ng hex : Bool) (l : List UInt8) (e : Ending) (h : RfP s ng hex (rfEnd hex (rfGo hex l rs0)) e) : RfA s e := by
 obtain ⟨m, x, tr, n, ok, rfl, n0, n1, m0, m1, x0, x1, hno, hyes⟩ := h
 refine ⟨m.toNat, x, ng, tr, hex, n.toNat, ok, by rw [Int.toNat_of_nonneg m0, Int.toNat_of_nonneg n0], by omega, by omega, x0, x1, ?_⟩
 rintro rfl rfl
 cases g : rfEnd false (rfGo false l rs0) with
 | none => exact absurd (hno g) (by simp)
 | some o =>
  obtain ⟨_, q2, _⟩ := hyes o g
  have := rm_end l o g
  omega
end Go.Proofs.YtnccpddjdgndcaaGreatDoor.Pf
end

section
/- THE WALK OF strconv.atofHex: it answers, whatever it be. -/
namespace Go.Proofs.YtnccpddjdgndcaaGreatDoor.Pf
open Go.RowKit Go.Proofs.YtnccpddjdgndcaaGreatDoor.Fmt
def ErrQ (v : Value) : Prop := v = .nilIface ∨ v = .iface 106 (.int .i64 1) ∨ v = .iface 106 (.int .i64 2)
theorem half_lt (m : Nat) (h : 2 ≤ m) : (m / 2 ||| m % 2) < m := by
 rcases Nat.mod_two_eq_zero_or_one m with o | o
 ·rw [o, Nat.or_zero]; omega
 ·rw [o, Nt.or1]; omega
theorem half_eq (m : Nat) (hm : m < 18446744073709551616) : bits .or .u64 ((m : Int) / 2) (bits .and .u64 (m : Int) 1) = ((m / 2 ||| m % 2 : Nat) : Int) := by
 rw [and1u m hm, show (m : Int) / 2 = ((m / 2 : Nat) : Int) by omega]
 exact or_u (m / 2) (m % 2) (by omega) (by omega)
def U64 (v : Value) : Prop := ∃ m : Nat, v = .int .u64 (m : Int) ∧ m < 18446744073709551616
theorem u64_of (x : Int) (h0 : 0 ≤ x) (h1 : x < 18446744073709551616) : U64 (.int .u64 x) := ⟨x.toNat, by rw [Int.toNat_of_nonneg h0], by omega⟩
theorem u64_wrap (x : Int) : U64 (.int .u64 (IntKind.u64.wrap x)) := u64_of _ (Dc.wrap_u64_in x).1 (Dc.wrap_u64_in x).2
theorem u64_bits (a b : Int) : U64 (.int .u64 (bits .or .u64 a b)) := u64_of _ (Dc.or_u64_bd a b).1 (Dc.or_u64_bd a b).2
def AnsX (e : Ending) : Prop := ∃ (y : Nat) (v : Value), e = .returned (.tuple #[.float .f64 y, v]) ∧ y < 18446744073709551616 ∧ ErrQ v
def GlobT (W : World) : Prop := (∃ c t, W.heap[10]? = some (.cells c t (0, 0))) ∧ ∃ c t, W.heap[9]? = some (.cells c t (0, 0))
theorem GlobT.below {W W2 : World} {B : Nat} (h : GlobT W) (hb : Below B W W2) (hB : 10 < B ∧ 9 < B) : GlobT W2 := by
 obtain ⟨⟨c, t, h1⟩, c2, t2, h2⟩ := h
 exact ⟨⟨c, t, (hb.block _ hB.1).trans h1⟩, c2, t2, (hb.block _ hB.2).trans h2⟩
theorem info_fi : (Tryz.prog.info? 178).map (fun i => i.size) = some 3 := by kernel_rfl
theorem ptr_ne (W : World) (h : GlobT W) : (binOp .eql 176 (.pointer (some ⟨10, 0, none⟩)) (.pointer (some ⟨9, 0, none⟩))).run Tryz.prog W = .ok (.bool false) W := by
 obtain ⟨⟨c, t, h1⟩, c2, t2, h2⟩ := h
 obtain ⟨j, hj, hs⟩ := Option.map_eq_some_iff.1 info_fi
 exact run_eql_ptr_other W Tryz.underlying176 hj (by omega) (by decide) h1 h2
set_option maxRecDepth 20000 in
set_option maxHeartbeats 8000000 in
theorem hex_any (s : ByteArray) (m : Nat) (x : Int) (ng tr : Bool) (hm : m < 18446744073709551616) (w : World) (z0 : w.cell? ⟨10, 0, none⟩ = some (.int .u64 52)) (z1 : w.cell? ⟨10, 1, none⟩ = some (.int .u64 11)) (z2 : w.cell? ⟨10, 2, none⟩ = some (.int .i64 (-1023))) (hG : GlobT w) :
  Calls Tryz.prog 149 #[.string s, (.pointer (some ⟨10, 0, none⟩)), .int .u64 (m : Int), .int .i64 x, .bool ng, .bool tr] w fun e w' => AnsX e ∧ ∃ n, w' = w.drewN n := by
 go_enter Tryz.func149, Tryz.ntmps149
 go_wp2_with fail
 go_quiet (fail)
 go_upto_block 0 with fail
 go_cut [2, 3] from 42 to 57 (fun v2 v3 wx => (∃ (m2 : Nat) (e2 : Int), v2 = .int .u64 (m2 : Int) ∧ v3 = .int .i64 e2 ∧ m2 < 18446744073709551616) ∧ w.drewN nq = wx)
 case first => as_aux_lemma =>
  go_wp2
  go_loopw [2, 3] (fun v2 v3 wx => (∃ (m2 : Nat) (e2 : Int), v2 = .int .u64 (m2 : Int) ∧ v3 = .int .i64 e2 ∧ m2 < 18446744073709551616) ∧ w.drewN nq = wx) (fun v2 _ _ => 18014398509481984 - (intOf v2).toNat)
  case atStart => exact ⟨⟨m, _, rfl, rfl, hm⟩, rfl⟩
  case round =>
   obtain ⟨⟨m2, e2, rfl, rfl, hm2⟩, rfl⟩ := hrel
   by_cases h0 : m2 = 0
   ·subst h0
    go_wp2_with fail
    go_meet
    exact ⟨⟨0, e2, rfl, rfl, hm2⟩, rfl⟩
   ·have b0 : ((m2 : Int) != 0) = true := by rw [bne_iff_ne]; omega
    by_cases h1 : m2 < 18014398509481984
    ·have b1 : ((m2 : Int) / 18014398509481984 == 0) = true := by
      have : (m2 : Int) / 18014398509481984 = 0 := by omega
      rw [this]; rfl
     go_wp2_with fail
     exact ⟨⟨⟨m2 * 2, _, by go_num, rfl, by omega⟩, by first | rfl | trivial⟩, by simp [intOf]; go_num⟩
    ·have b1 : ((m2 : Int) / 18014398509481984 == 0) = false := beq_eq_false_iff_ne.2 (by omega)
     go_wp2_with fail
     go_meet
     exact ⟨⟨m2, e2, rfl, rfl, hm2⟩, rfl⟩
 case rest => as_aux_lemma =>
  obtain ⟨⟨m2, e2, rfl, rfl, hm2⟩, rfl⟩ := hcut
  clear hm
  go_upto_if 58 with fail
  go_cut [2] from 58 to 60 (fun v2 wx => (∃ (m3 : Nat), v2 = .int .u64 (m3 : Int) ∧ m3 < 18446744073709551616) ∧ w.drewN nq = wx)
  case first => as_aux_lemma =>
   cases tr
   ·go_wp2_with fail
    go_meet
    exact ⟨⟨m2, rfl, hm2⟩, rfl⟩
   ·go_wp2_with fail
    go_meet
    obtain ⟨m3, h1, h2⟩ := u64_bits (m2 : Int) 1
    exact ⟨⟨m3, h1, h2⟩, rfl⟩
  case rest => as_aux_lemma =>
   obtain ⟨⟨m3, rfl, hm3⟩, rfl⟩ := hcut
   clear hm2
   go_upto_block 2 with fail
   go_cut [2, 3] from 61 to 76 (fun v2 v3 wx => (∃ (m2 : Nat) (e2 : Int), v2 = .int .u64 (m2 : Int) ∧ v3 = .int .i64 e2 ∧ m2 < 18446744073709551616) ∧ w.drewN nq = wx)
   case first => as_aux_lemma =>
    go_wp2
    go_loopw [2, 3] (fun v2 v3 wx => (∃ (m2 : Nat) (e2 : Int), v2 = .int .u64 (m2 : Int) ∧ v3 = .int .i64 e2 ∧ m2 < 18446744073709551616) ∧ w.drewN nq = wx) (fun v2 _ _ => (intOf v2).toNat)
    case atStart => exact ⟨⟨m3, _, rfl, rfl, hm3⟩, rfl⟩
    case round =>
     obtain ⟨⟨m4, e4, rfl, rfl, hm4⟩, rfl⟩ := hrel
     by_cases h1 : 36028797018963968 ≤ m4
     ·have b1 : ((m4 : Int) / 36028797018963968 != 0) = true := by rw [bne_iff_ne]; omega
      have he := half_eq m4 hm4
      have hl := half_lt m4 (by omega)
      generalize (m4 / 2 ||| m4 % 2) = q at *
      have HE := Lib.hid he
      clear he
      go_wp2_with fail
      refine ⟨⟨⟨q, _, by rw [HE.out], rfl, by omega⟩, by first | rfl | trivial⟩, ?_⟩
      rw [HE.out]
      simp [intOf]; exact hl
     ·have b1 : ((m4 : Int) / 36028797018963968 != 0) = false := by
       have : (m4 : Int) / 36028797018963968 = 0 := by omega
       rw [this]; rfl
      go_wp2_with fail
      go_meet
      exact ⟨⟨m4, e4, rfl, rfl, hm4⟩, rfl⟩
   case rest => as_aux_lemma =>
    obtain ⟨⟨m4, e4, rfl, rfl, hm4⟩, rfl⟩ := hcut
    clear hm3
    go_upto_block 4 with fail
    go_cut [2, 3] from 77 to 91 (fun v2 v3 wx => (∃ (m2 : Nat) (e2 : Int), v2 = .int .u64 (m2 : Int) ∧ v3 = .int .i64 e2 ∧ m2 < 18446744073709551616) ∧ w.drewN nq = wx)
    case first => as_aux_lemma =>
     go_wp2
     go_loopw [2, 3] (fun v2 v3 wx => (∃ (m2 : Nat) (e2 : Int), v2 = .int .u64 (m2 : Int) ∧ v3 = .int .i64 e2 ∧ m2 < 18446744073709551616) ∧ w.drewN nq = wx) (fun v2 _ _ => (intOf v2).toNat)
     case atStart => exact ⟨⟨m4, _, rfl, rfl, hm4⟩, rfl⟩
     case round =>
      obtain ⟨⟨m5, e5, rfl, rfl, hm5⟩, rfl⟩ := hrel
      by_cases h1 : 1 < m5
      ·have b1 : (1 : Int) < (m5 : Int) := by omega
       by_cases h2 : e5 < -1024
       ·have he := half_eq m5 hm5
        have hl := half_lt m5 (by omega)
        generalize (m5 / 2 ||| m5 % 2) = q at *
        have HE := Lib.hid he
        clear he
        go_wp2_with fail
        refine ⟨⟨⟨q, _, by rw [HE.out], rfl, by omega⟩, by first | rfl | trivial⟩, ?_⟩
        rw [HE.out]
        simp [intOf]; exact hl
       ·go_wp2_with fail
        go_meet
        exact ⟨⟨m5, e5, rfl, rfl, hm5⟩, rfl⟩
      ·have b1 : ¬ (1 : Int) < (m5 : Int) := by omega
       go_wp2_with fail
       go_meet
       exact ⟨⟨m5, e5, rfl, rfl, hm5⟩, rfl⟩
    case rest => as_aux_lemma =>
     obtain ⟨⟨m5, e5, rfl, rfl, hm5⟩, rfl⟩ := hcut
     clear hm4
     go_upto_if 103 with fail
     go_cut [2, 3] from 102 to 117 (fun v2 v3 wx => U64 v2 ∧ (∃ e : Int, v3 = .int .i64 e) ∧ w.drewN nq = wx)
     case first => as_aux_lemma =>
      go_wp2_with fail
      all_goals
       go_meet
       refine ⟨?_, ⟨_, rfl⟩, rfl⟩
       first | exact u64_wrap _ | exact u64_of _ (by omega) (by omega)
     case rest => as_aux_lemma =>
      obtain ⟨⟨m6, rfl, hm6⟩, ⟨e6, rfl⟩, rfl⟩ := hcut
      clear hm5
      go_upto_if 124 with fail
      go_cut [3] from 118 to 128 (fun v3 wx => (∃ e : Int, v3 = .int .i64 e) ∧ w.drewN nq = wx)
      case first => as_aux_lemma =>
       go_wp2_with fail
       all_goals
        go_meet
        exact ⟨⟨_, rfl⟩, rfl⟩
      case rest => as_aux_lemma =>
       obtain ⟨⟨e7, rfl⟩, rfl⟩ := hcut
       go_upto_if 131 with fail
       go_cut [2, 3, 17] from 129 to 139 (fun v2 v3 v17 wx => U64 v2 ∧ (∃ e : Int, v3 = .int .i64 e) ∧ ErrQ v17 ∧ w.drewN nq = wx)
       case first => as_aux_lemma =>
        by_cases h1 : 1023 < e7
        ·go_wp2_with fail
         go_meet
         exact ⟨u64_of _ (by omega) (by omega), ⟨_, rfl⟩, .inr (.inl rfl), rfl⟩
        ·go_wp2_with fail
         go_meet
         exact ⟨⟨m6, rfl, hm6⟩, ⟨_, rfl⟩, .inl rfl, rfl⟩
       case rest => as_aux_lemma =>
        obtain ⟨⟨m8, rfl, hm8⟩, ⟨e8, rfl⟩, he, rfl⟩ := hcut
        have hpn : ∀ n, _ := fun n => ptr_ne (w.drewN n) hG
        have hpn2 : ∀ n m, _ := fun n m => ptr_ne ((w.drewN n).drewN m) hG
        cases ng
        ·go_wp2_with (first | (simp only [sfrom_call]) | fail)
         go_quiet (fail)
         go_wp2_with (first | (simp only [sfrom_call]) | (simp only [hpn, hpn2]) | fail)
         go_returns
         exact ⟨⟨_, _, rfl, by have := (Dc.or_u64_bd (bits .and .u64 (m8 : Int) 4503599627370495) (IntKind.u64.wrap (IntKind.u64.wrap (bits .and .i64 (wrap64 (e8 + 1023)) 2047) * 4503599627370496))); omega, he⟩, _, rfl⟩
        ·go_wp2_with (first | (simp only [sfrom_call]) | fail)
         go_quiet (fail)
         go_wp2_with (first | (simp only [sfrom_call]) | (simp only [hpn, hpn2]) | fail)
         go_quiet (fail)
         go_wp2_with (first | (simp only [sfrom_call]) | (simp only [hpn, hpn2]) | fail)
         go_returns
         exact ⟨⟨_, _, rfl, by have := (Dc.or_u64_bd (bits .or .u64 (bits .and .u64 (m8 : Int) 4503599627370495) (IntKind.u64.wrap (IntKind.u64.wrap (bits .and .i64 (wrap64 (e8 + 1023)) 2047) * 4503599627370496))) 9223372036854775808); omega, he⟩, _, rfl⟩
end Go.Proofs.YtnccpddjdgndcaaGreatDoor.Pf
end

section
/- THE WALKS OF strconv.atof64 AND ParseFloat AT A NUMBER's TEXT. -/
namespace Go.Proofs.YtnccpddjdgndcaaGreatDoor.Pf
open Go.RowKit Go.Proofs.YtnccpddjdgndcaaGreatDoor.Fmt Go.Proofs.YtnccpddjdgndcaaGreatDoor.Nt Ieee
abbrev tInf : ByteArray := ⟨#[105, 110, 102, 105, 110, 105, 116, 121]⟩
theorem gi0 (h : 0 < tInf.size) : (tInf[0]'h) = 105 := rfl
attribute [local go_sem] gi0
set_option maxRecDepth 20000 in
set_option maxHeartbeats 1000000 in
theorem prefix0 (s : ByteArray) (h0 : 0 < s.size) (hd : 48 ≤ ((s[0]'h0).toNat : Int) ∧ ((s[0]'h0).toNat : Int) ≤ 57) (w : World) :
  Calls Tryz.prog 187 #[.string s, .string tInf] w fun e w' => e = .returned (.int .i64 0) ∧ w = w' := by
 have i0 : (0 : Int) < (s.size : Int) := by omega
 have i1 : (0 : Int) < min 8 (s.size : Int) := by omega
 have d1 : ¬ (65 : Int) ≤ ((s[0]'h0).toNat : Int) := by omega
 have d2 : (((s[0]'h0).toNat : Int) != 105) = true := by simp; omega
 clear hd
 go_enter Tryz.func187, Tryz.ntmps187
 go_wp2_with fail
 go_rounds 1
 go_ret
 exact ⟨rfl, rfl⟩
set_option maxRecDepth 20000 in
set_option maxHeartbeats 1000000 in
theorem special_pos (s : ByteArray) (h0 : 0 < s.size) (hd : 48 ≤ ((s[0]'h0).toNat : Int) ∧ ((s[0]'h0).toNat : Int) ≤ 57) (w : World) :
  Calls Tryz.prog 147 #[.string s] w fun e w' => e = .returned (.tuple #[.float .f64 0, .int .i64 0, .bool false]) ∧ w = w' := by
 have i0 : (0 : Int) < (s.size : Int) := by omega
 have z0 : ((s.size : Int) == 0) = false := beq_eq_false_iff_ne.2 (by omega)
 have d1 : (((s[0]'h0).toNat : Int) == 43) = false := by simp; omega
 have d2 : (((s[0]'h0).toNat : Int) == 45) = false := by simp; omega
 have d3 : (((s[0]'h0).toNat : Int) == 105) = false := by simp; omega
 have d4 : (((s[0]'h0).toNat : Int) == 73) = false := by simp; omega
 have d5 : (((s[0]'h0).toNat : Int) == 110) = false := by simp; omega
 have d6 : (((s[0]'h0).toNat : Int) == 78) = false := by simp; omega
 clear hd
 go_enter Tryz.func147, Tryz.ntmps147
 go_wp2
 go_returns
 exact ⟨rfl, rfl⟩
set_option maxRecDepth 20000 in
set_option maxHeartbeats 1000000 in
theorem special_neg (s t : ByteArray) (h0 : 0 < s.size) (h45 : ((s[0]'h0).toNat : Int) = 45) (ht : s.extract 1 s.size = t) (ht0 : 0 < t.size) (hd : 48 ≤ ((t[0]'ht0).toNat : Int) ∧ ((t[0]'ht0).toNat : Int) ≤ 57) (w : World) :
  Calls Tryz.prog 147 #[.string s] w fun e w' => e = .returned (.tuple #[.float .f64 0, .int .i64 0, .bool false]) ∧ w = w' := by
 have hpre := fun W => prefix0 t ht0 hd W
 have HPRE := Lib.hid hpre
 have i0 : (0 : Int) < (s.size : Int) := by omega
 have i1 : (1 : Int) ≤ (s.size : Int) := by omega
 have z0 : ((s.size : Int) == 0) = false := beq_eq_false_iff_ne.2 (by omega)
 have d1 : (((s[0]'h0).toNat : Int) == 43) = false := by simp; omega
 have d2 : (((s[0]'h0).toNat : Int) == 45) = true := by simp; omega
 clear hpre hd h45
 go_enter Tryz.func147, Tryz.ntmps147
 go_wp2_with (first | (go_at_call 187; refine (HPRE.out _).mono ?_; rintro e w' ⟨rfl, rfl⟩) | fail)
 go_returns
 exact ⟨rfl, rfl⟩
abbrev tNaN : ByteArray := ⟨#[78, 97, 78]⟩
abbrev tnan : ByteArray := ⟨#[110, 97, 110]⟩
abbrev tInf3 : ByteArray := ⟨#[73, 110, 102]⟩
abbrev tPInf : ByteArray := ⟨#[43, 73, 110, 102]⟩
abbrev tNInf : ByteArray := ⟨#[45, 73, 110, 102]⟩
theorem gn0 (h : 0 < tNaN.size) : (tNaN[0]'h) = 78 := rfl
theorem gn1 (h : 1 < tNaN.size) : (tNaN[1]'h) = 97 := rfl
theorem gn2 (h : 2 < tNaN.size) : (tNaN[2]'h) = 78 := rfl
theorem gm0 (h : 0 < tnan.size) : (tnan[0]'h) = 110 := rfl
theorem gm1 (h : 1 < tnan.size) : (tnan[1]'h) = 97 := rfl
theorem gm2 (h : 2 < tnan.size) : (tnan[2]'h) = 110 := rfl
theorem gi1 (h : 1 < tInf.size) : (tInf[1]'h) = 110 := rfl
theorem gi2 (h : 2 < tInf.size) : (tInf[2]'h) = 102 := rfl
theorem gj0 (h : 0 < tInf3.size) : (tInf3[0]'h) = 73 := rfl
theorem gj1 (h : 1 < tInf3.size) : (tInf3[1]'h) = 110 := rfl
theorem gj2 (h : 2 < tInf3.size) : (tInf3[2]'h) = 102 := rfl
theorem gp0 (h : 0 < tPInf.size) : (tPInf[0]'h) = 43 := rfl
theorem gq0 (h : 0 < tNInf.size) : (tNInf[0]'h) = 45 := rfl
theorem xp : tPInf.extract 1 4 = tInf3 := rfl
theorem xq : tNInf.extract 1 4 = tInf3 := rfl
attribute [local go_sem] gi1 gi2 gn0 gn1 gn2 gm0 gm1 gm2 gj0 gj1 gj2 gp0 gq0 xp xq
set_option maxRecDepth 20000 in
set_option maxHeartbeats 1000000 in
theorem prefix_nan (w : World) : Calls Tryz.prog 187 #[.string tNaN, .string tnan] w fun e w' => e = .returned (.int .i64 3) ∧ w = w' := by
 go_enter Tryz.func187, Tryz.ntmps187
 go_wp2_with fail
 go_rounds 5
 go_ret
 exact ⟨rfl, rfl⟩
set_option maxRecDepth 20000 in
set_option maxHeartbeats 1000000 in
theorem prefix_inf (w : World) : Calls Tryz.prog 187 #[.string tInf3, .string tInf] w fun e w' => e = .returned (.int .i64 3) ∧ w = w' := by
 go_enter Tryz.func187, Tryz.ntmps187
 go_wp2_with fail
 go_rounds 5
 go_ret
 exact ⟨rfl, rfl⟩
theorem nan_call (w : World) : Calls Tryz.prog 189 #[] w fun e w' => e = .returned (.float .f64 9221120237041090561) ∧ w = w' := by
 go_enter Tryz.func189, Tryz.ntmps189
 go_wp2_with (first | (simp only [sfrom_call]) | fail)
 go_ret
 exact ⟨rfl, rfl⟩
theorem inf_pos (w : World) : Calls Tryz.prog 188 #[.int .i64 1] w fun e w' => e = .returned (.float .f64 9218868437227405312) ∧ w = w' := by
 go_enter Tryz.func188, Tryz.ntmps188
 go_wp2_with (first | (simp only [sfrom_call]) | fail)
 go_ret
 exact ⟨rfl, rfl⟩
theorem inf_neg (w : World) : Calls Tryz.prog 188 #[.int .i64 (-1)] w fun e w' => e = .returned (.float .f64 18442240474082181120) ∧ w = w' := by
 go_enter Tryz.func188, Tryz.ntmps188
 go_wp2_with (first | (simp only [sfrom_call]) | fail)
 go_ret
 exact ⟨rfl, rfl⟩
set_option maxRecDepth 20000 in
set_option maxHeartbeats 1000000 in
theorem special_nan (w : World) : Calls Tryz.prog 147 #[.string tNaN] w fun e w' => e = .returned (.tuple #[.float .f64 9221120237041090561, .int .i64 3, .bool true]) ∧ w = w' := by
 go_enter Tryz.func147, Tryz.ntmps147
 go_wp2_with (first | (go_at_call 187; refine (prefix_nan _).mono ?_; rintro e w' ⟨rfl, rfl⟩) | (go_at_call 189; refine (nan_call _).mono ?_; rintro e w' ⟨rfl, rfl⟩) | fail)
 go_returns
 exact ⟨rfl, rfl⟩
set_option maxRecDepth 20000 in
set_option maxHeartbeats 1000000 in
theorem special_pinf (w : World) : Calls Tryz.prog 147 #[.string tPInf] w fun e w' => e = .returned (.tuple #[.float .f64 9218868437227405312, .int .i64 4, .bool true]) ∧ w = w' := by
 go_enter Tryz.func147, Tryz.ntmps147
 go_wp2_with (first | (go_at_call 187; refine (prefix_inf _).mono ?_; rintro e w' ⟨rfl, rfl⟩) | (go_at_call 188; refine (inf_pos _).mono ?_; rintro e w' ⟨rfl, rfl⟩) | fail)
 go_returns
 exact ⟨rfl, rfl⟩
set_option maxRecDepth 20000 in
set_option maxHeartbeats 1000000 in
theorem special_ninf (w : World) : Calls Tryz.prog 147 #[.string tNInf] w fun e w' => e = .returned (.tuple #[.float .f64 18442240474082181120, .int .i64 4, .bool true]) ∧ w = w' := by
 go_enter Tryz.func147, Tryz.ntmps147
 go_wp2_with (first | (go_at_call 187; refine (prefix_inf _).mono ?_; rintro e w' ⟨rfl, rfl⟩) | (go_at_call 188; refine (inf_neg _).mono ?_; rintro e w' ⟨rfl, rfl⟩) | fail)
 go_returns
 exact ⟨rfl, rfl⟩
end Go.Proofs.YtnccpddjdgndcaaGreatDoor.Pf
end

section
/- THE WALK OF strconv.special: it answers, at any text. -/
namespace Go.Proofs.YtnccpddjdgndcaaGreatDoor.Pf
open Go.RowKit Go.Proofs.YtnccpddjdgndcaaGreatDoor.Fmt Go.Proofs.YtnccpddjdgndcaaGreatDoor.Nt Ieee
def AnsS (a : Nat) (e : Ending) : Prop := ∃ (f : Nat) (k : Int) (b : Bool), e = .returned (.tuple #[.float .f64 f, .int .i64 k, .bool b]) ∧ 0 ≤ k ∧ k ≤ (a : Int) ∧ f < 18446744073709551616
set_option maxRecDepth 20000 in
set_option maxHeartbeats 2000000 in
theorem special_any (s : ByteArray) (hs : s.size ≤ 100000) (w : World) :
  Calls Tryz.prog 147 #[.string s] w fun e w' => AnsS s.size e ∧ w = w' := by
 by_cases h0 : 0 < s.size
 rotate_left
 ·have z0 : ((s.size : Int) == 0) = true := beq_iff_eq.2 (by omega)
  go_enter Tryz.func147, Tryz.ntmps147
  go_wp2_with fail
  go_returns
  exact ⟨⟨_, _, _, rfl, by decide, by omega, by decide⟩, rfl⟩
 have i0 : (0 : Int) < (s.size : Int) := by omega
 have z0 : ((s.size : Int) == 0) = false := beq_eq_false_iff_ne.2 (by omega)
 obtain ⟨x, hx⟩ : ∃ x : Int, ((s[0]'h0).toNat : Int) = x := ⟨_, rfl⟩
 by_cases hsg : x = 43 ∨ x = 45
 ·obtain ⟨t, ht⟩ : ∃ t, s.extract 1 s.size = t := ⟨_, rfl⟩
  have htz : t.size + 1 = s.size := by rw [← ht, ByteArray.size_extract]; omega
  have hpx := fun W => prefix_any t tInf (by omega) W
  have HPX := Lib.hid hpx
  have i1 : (1 : Int) ≤ (s.size : Int) := by omega
  clear hpx
  rcases hsg with rfl | rfl
  ·go_enter Tryz.func147, Tryz.ntmps147
   go_wp2_with (first | (go_at_call 187; refine (HPX.out _).mono ?_; rintro e w1 ⟨⟨k, rfl, hk⟩, rfl⟩) | (go_at_call 188; refine (inf_pos _).mono ?_; rintro e w2 ⟨rfl, rfl⟩) | (go_at_call 188; refine (inf_neg _).mono ?_; rintro e w2 ⟨rfl, rfl⟩) | (go_at_call 189; refine (nan_call _).mono ?_; rintro e w2 ⟨rfl, rfl⟩) | fail)
   all_goals (go_returns; exact ⟨⟨_, _, _, rfl, by omega, by omega, by decide⟩, rfl⟩)
  ·go_enter Tryz.func147, Tryz.ntmps147
   go_wp2_with (first | (go_at_call 187; refine (HPX.out _).mono ?_; rintro e w1 ⟨⟨k, rfl, hk⟩, rfl⟩) | (go_at_call 188; refine (inf_pos _).mono ?_; rintro e w2 ⟨rfl, rfl⟩) | (go_at_call 188; refine (inf_neg _).mono ?_; rintro e w2 ⟨rfl, rfl⟩) | (go_at_call 189; refine (nan_call _).mono ?_; rintro e w2 ⟨rfl, rfl⟩) | fail)
   all_goals (go_returns; exact ⟨⟨_, _, _, rfl, by omega, by omega, by decide⟩, rfl⟩)
 ·have n1 : ¬ x = 43 := fun h => hsg (.inl h)
  have n2 : ¬ x = 45 := fun h => hsg (.inr h)
  have b1 : (x == 43) = false := by simpa using n1
  have b2 : (x == 45) = false := by simpa using n2
  by_cases h3 : x = 105 ∨ x = 73
  ·have hpx := fun W => prefix_any s tInf hs W
   have HPX := Lib.hid hpx
   clear hpx hsg n1 n2
   rcases h3 with rfl | rfl
   ·go_enter Tryz.func147, Tryz.ntmps147
    go_wp2_with (first | (go_at_call 187; refine (HPX.out _).mono ?_; rintro e w1 ⟨⟨k, rfl, hk⟩, rfl⟩) | (go_at_call 188; refine (inf_pos _).mono ?_; rintro e w2 ⟨rfl, rfl⟩) | (go_at_call 188; refine (inf_neg _).mono ?_; rintro e w2 ⟨rfl, rfl⟩) | (go_at_call 189; refine (nan_call _).mono ?_; rintro e w2 ⟨rfl, rfl⟩) | fail)
    all_goals (go_returns; exact ⟨⟨_, _, _, rfl, by omega, by omega, by decide⟩, rfl⟩)
   ·go_enter Tryz.func147, Tryz.ntmps147
    go_wp2_with (first | (go_at_call 187; refine (HPX.out _).mono ?_; rintro e w1 ⟨⟨k, rfl, hk⟩, rfl⟩) | (go_at_call 188; refine (inf_pos _).mono ?_; rintro e w2 ⟨rfl, rfl⟩) | (go_at_call 188; refine (inf_neg _).mono ?_; rintro e w2 ⟨rfl, rfl⟩) | (go_at_call 189; refine (nan_call _).mono ?_; rintro e w2 ⟨rfl, rfl⟩) | fail)
    all_goals (go_returns; exact ⟨⟨_, _, _, rfl, by omega, by omega, by decide⟩, rfl⟩)
  ·have n3 : ¬ x = 105 := fun h => h3 (.inl h)
   have n4 : ¬ x = 73 := fun h => h3 (.inr h)
   have b3 : (x == 105) = false := by simpa using n3
   have b4 : (x == 73) = false := by simpa using n4
   have hpx := fun W => prefix_any s tnan hs W
   have HPX := Lib.hid hpx
   clear hpx hsg h3
   by_cases h5 : x = 110 ∨ x = 78
   ·rcases h5 with rfl | rfl
    ·go_enter Tryz.func147, Tryz.ntmps147
     go_wp2_with (first | (go_at_call 187; refine (HPX.out _).mono ?_; rintro e w1 ⟨⟨k, rfl, hk⟩, rfl⟩) | (go_at_call 188; refine (inf_pos _).mono ?_; rintro e w2 ⟨rfl, rfl⟩) | (go_at_call 188; refine (inf_neg _).mono ?_; rintro e w2 ⟨rfl, rfl⟩) | (go_at_call 189; refine (nan_call _).mono ?_; rintro e w2 ⟨rfl, rfl⟩) | fail)
     all_goals (go_returns; (try simp only [beq_iff_eq] at *); exact ⟨⟨_, _, _, rfl, by omega, by omega, by decide⟩, by first | rfl | trivial⟩)
    ·go_enter Tryz.func147, Tryz.ntmps147
     go_wp2_with (first | (go_at_call 187; refine (HPX.out _).mono ?_; rintro e w1 ⟨⟨k, rfl, hk⟩, rfl⟩) | (go_at_call 188; refine (inf_pos _).mono ?_; rintro e w2 ⟨rfl, rfl⟩) | (go_at_call 188; refine (inf_neg _).mono ?_; rintro e w2 ⟨rfl, rfl⟩) | (go_at_call 189; refine (nan_call _).mono ?_; rintro e w2 ⟨rfl, rfl⟩) | fail)
     all_goals (go_returns; (try simp only [beq_iff_eq] at *); exact ⟨⟨_, _, _, rfl, by omega, by omega, by decide⟩, by first | rfl | trivial⟩)
   ·have n5 : ¬ x = 110 := fun h => h5 (.inl h)
    have n6 : ¬ x = 78 := fun h => h5 (.inr h)
    have b5 : (x == 110) = false := by simpa using n5
    have b6 : (x == 78) = false := by simpa using n6
    go_enter Tryz.func147, Tryz.ntmps147
    go_wp2_with fail
    all_goals (go_returns; exact ⟨⟨_, _, _, rfl, by omega, by omega, by decide⟩, rfl⟩)
end Go.Proofs.YtnccpddjdgndcaaGreatDoor.Pf
end

section
/- THE WALK OF strconv.atof64: it answers, whatever the text be. -/
namespace Go.Proofs.YtnccpddjdgndcaaGreatDoor.Pf
open Go.RowKit Go.Proofs.YtnccpddjdgndcaaGreatDoor.Fmt
theorem dk_below {w w2 : World} (b : Nat) (h : Below w.heap.size w w2) : Dc.DK b w w2 := ⟨h.os, h.tape, h.output, h.size, fun p hp _ => h.block p hp⟩
structure AW (w : World) (B R o c : Nat) : Prop where
 pf : PfW w
 pw : Pow w
 gl : GlobT w
 tb : Dc.TbW w B R o c
 sz : B ≤ w.heap.size
theorem GlobT.lt {w : World} (h : GlobT w) : 10 < w.heap.size ∧ 9 < w.heap.size := by
 obtain ⟨⟨c, t, h1⟩, c2, t2, h2⟩ := h
 exact ⟨(Array.getElem?_eq_some_iff.1 h1).1, (Array.getElem?_eq_some_iff.1 h2).1⟩
theorem AW.below {w w2 : World} {B R o c : Nat} (h : AW w B R o c) (hb : Below w.heap.size w w2) : AW w2 B R o c :=
 ⟨h.pf.below hb (Nat.le_refl _), h.pw.below hb, h.gl.below hb h.gl.lt, h.tb.dk (dk_below B hb) (Nat.le_refl _) h.sz, Nat.le_trans h.sz hb.size⟩
def AnsA (e : Ending) : Prop := ∃ (y : Nat) (n : Int) (v : Value), e = .returned (.tuple #[.float .f64 y, .int .i64 n, v]) ∧ y < 18446744073709551616 ∧ ErrQ v
def AnsP (e : Ending) : Prop := ∃ (y : Nat) (v : Value), e = .returned (.tuple #[.float .f64 y, v]) ∧ y < 18446744073709551616 ∧ ErrQ v
theorem pf64_ans (d : Nat) (p sg : Int) (hd0 : 1 ≤ d) (hd : d < 18446744073709551616) (hp0 : -348 ≤ p) (hp1 : p ≤ 347) (hs : 0 ≤ sg ∧ sg < 18446744073709551616) (hsg : bits .or .u64 sg 0 = sg) (w : World) (hpw : Pow w) :
  Calls Tryz.prog 159 #[.int .u64 d, .int .i64 p, .int .u64 sg] w fun e' w' => AnsP e' ∧ Below w.heap.size w w' := by
 refine (pf64_any d p sg hd0 hd hp0 hp1 hsg w hpw).mono ?_
 rintro e w' ⟨rfl, hb⟩
 refine ⟨⟨_, _, rfl, pfV_bd d p sg hs.1 hs.2, ?_⟩, hb⟩
 unfold errV
 split
 ·exact .inr (.inl rfl)
 ·exact .inl rfl
theorem pf64_suc (d : Nat) (p sg : Int) (hd : d + 1 < 18446744073709551616) (hp0 : -348 ≤ p) (hp1 : p ≤ 347) (hs : 0 ≤ sg ∧ sg < 18446744073709551616) (hsg : bits .or .u64 sg 0 = sg) (w : World) (hpw : Pow w) :
  Calls Tryz.prog 159 #[.int .u64 ((d : Int) + 1), .int .i64 p, .int .u64 sg] w fun e' w' => AnsP e' ∧ Below w.heap.size w w' := by
 have h := pf64_ans (d + 1) p sg (Nat.le_add_left _ _) hd hp0 hp1 hs hsg w hpw
 rw [Int.natCast_add, Int.natCast_one] at h
 exact h
set_option maxRecDepth 200000 in
theorem zc_is : Tryz.zeroCells160 = Array.replicate 800 (.int .u8 0) ++ #[.int .i64 0, .int .i64 0, .bool false, .bool false] := by kernel_rfl
theorem dk_alloc (w : World) (o : Obj) : Dc.DK w.heap.size w (w.alloc o) := dk_below _ ((Below.refl _ w).alloc (Nat.le_refl _) o)
theorem dat_new (w : World) : Dc.DAt (w.alloc (.cells Tryz.zeroCells160 160)) w.heap.size [] 0 := by
 have hk : (w.alloc (.cells Tryz.zeroCells160 160)).heap[w.heap.size]? = some (.cells Tryz.zeroCells160 160 (0, 0)) := heap_alloc_new w _
 have hc : ∀ j, (w.alloc (.cells Tryz.zeroCells160 160)).cell? ⟨w.heap.size, j, none⟩ = (Array.replicate 800 (Value.int .u8 0) ++ #[.int .i64 0, .int .i64 0, .bool false, .bool false])[j]? := fun j => (cell_of_row _ _ j _ _ (0, 0) hk).trans (congrArg (fun a : Array Value => a[j]?) zc_is)
 refine ⟨fun _ => 0, ⟨fun i hi => ?_, ?_, ?_, ⟨false, ?_⟩, ⟨false, ?_⟩, fun o => ?_⟩, fun i hi => absurd hi (Nat.not_lt_zero _), Nat.zero_le _⟩
 ·rw [hc, Array.getElem?_append_left (by simpa using hi), Array.getElem?_replicate, if_pos hi]; rfl
 ·rw [hc, Array.getElem?_append_right (by simp)]; simp
 ·rw [hc, Array.getElem?_append_right (by simp)]; simp
 ·rw [hc, Array.getElem?_append_right (by simp)]; simp
 ·rw [hc, Array.getElem?_append_right (by simp)]; simp
 ·unfold World.frozen?
  rw [hk]
  simp
theorem fb_all (b : Nat) (ds : List Nat) (dp : Int) (w : World) (hd : Dc.DAt w b ds dp) (hg : Dc.Dg ds) (hh : ds = [] ∨ Dc.Hd ds) (B R o c : Nat) (hF : Dc.TbW w B R o c) (hB : B ≤ b) (hs : B ≤ w.heap.size) :
  Calls Tryz.prog 155 #[.pointer (some ⟨b, 0, none⟩), (.pointer (some ⟨10, 0, none⟩))] w fun e w' => Dc.AnsF e ∧ Dc.DK b w w' := by
 rcases hh with rfl | hh
 ·exact Dc.fb_none b dp w hd B R o c hF
 ·have hok : Dc.Ok ⟨ds, dp, false⟩ := ⟨hg, hh, by obtain ⟨_, _, _, h⟩ := hd; exact h⟩
  by_cases h1 : 310 < dp ∨ dp < -330
  ·exact Dc.fb_far b ⟨ds, dp, false⟩ w hd hok B R o c hF h1
  ·exact Dc.fb_some b ⟨ds, dp, false⟩ w hd hok B R o c hF hB hs (by show -330 ≤ dp; omega) (by show dp ≤ 310; omega)
theorem d1_of {d : Nat} (h : ((d : Int) == 0) = false) : 1 ≤ d := by have := beq_eq_false_iff_ne.1 h; omega
set_option maxRecDepth 20000 in
set_option maxHeartbeats 8000000 in
theorem atof_any (s : ByteArray) (hs : s.size ≤ 100000) (hrf : ∀ W, Calls Tryz.prog 148 #[.string s] W fun e w' => RfA s e ∧ Below W.heap.size W w') (w : World) (B R o c : Nat) (hA : AW w B R o c) :
  Calls Tryz.prog 111 #[.string s] w fun e w' => AnsA e ∧ Below w.heap.size w w' := by
 have HRF := Lib.hid hrf; have HA := Lib.hid hA
 clear hrf hA
 go_enter Tryz.func111, Tryz.ntmps111
 go_upto_if 64 with (first | (go_at_call 147; refine (special_any s hs _).mono ?_; rintro e w1 ⟨⟨vf, vk, vb, rfl, hk0, hk1, hvf⟩, rfl⟩) | (go_at_call 148; refine (HRF.out _).mono ?_; rintro e w1 ⟨⟨d, x, ng, tr, hex, n, ok, rfl, hn, hd, hx0, hx1, hdd⟩, hb1⟩; have hA1 := HA.out.below hb1; have hopt := hA1.pf.opt) | (go_at_call 149; refine (hex_any _ d x ng tr hd _ (hA1.tb.drewN 0).i0 (hA1.tb.drewN 0).i1 (hA1.tb.drewN 0).i2 hA1.gl).mono ?_; rintro e w2 ⟨⟨y, v, rfl, hy, hv⟩, m, rfl⟩) | fail)
 ·go_returns
  exact ⟨⟨_, _, _, rfl, hvf, .inl rfl⟩, Below.refl _ _⟩
 ·go_returns
  exact ⟨⟨_, _, _, rfl, by decide, .inr (.inr rfl)⟩, hb1⟩
 ·go_returns
  exact ⟨⟨_, _, _, rfl, hy, hv⟩, hb1.trans (Dc.dk_drewN w1.heap.size m _ |>.low (Nat.le_refl _) (Nat.le_refl _) |>.mono hb1.size)⟩
 have hok : ok = true := by simpa using ‹(!ok) = false›
 have hd2 : d + 1 < 18446744073709551616 := hdd hok ‹hex = false›
 clear hdd
 obtain ⟨sg, hsg⟩ : ∃ sg : Int, (if ng then (9223372036854775808 : Int) else 0) = sg := ⟨_, rfl⟩
 have hor : bits .or .u64 sg 0 = sg := by subst hsg; cases ng <;> decide
 have hsb : 0 ≤ sg ∧ sg < 18446744073709551616 := by subst hsg; cases ng <;> decide
 cases ng
 all_goals
  simp only [Bool.false_eq_true, if_false, if_true] at hsg
  subst hsg
  have HOR := Lib.hid hor
  go_upto_if 75 with (first | (go_at_call 156; refine (bool2_any _ _).mono ?_; rintro e w2 ⟨rfl, rfl⟩) | (simp only [sfrom_call]) | fail)
  ·go_returns
   exact ⟨⟨_, _, _, rfl, by decide, .inl rfl⟩, hb1⟩
  have hd0 := d1_of ‹((d : Int) == 0) = false›
  have HH := Lib.hid hsb
  go_upto_if 88 with (first | (simp only [sfrom_call]) | fail)
  ·go_returns
   exact ⟨⟨_, _, _, rfl, by decide, .inr (.inl rfl)⟩, hb1⟩
  ·go_returns
   exact ⟨⟨_, _, _, rfl, by decide, .inl rfl⟩, hb1⟩
  go_upto_region 20 with (first | (go_at_call 158; refine (exact_any d x _ hd0 hd (by omega) (by omega) _ hA1.pf).mono ?_; rintro e w2 ⟨⟨fx, fok, rfl, hfx, _⟩, rfl⟩) | fail)
  ·obtain rfl : tr = false := by simpa using ‹(!tr) = true›
   cases fok
   ·go_wp2_with (first | (go_at_call 159; refine (pf64_ans d x _ hd0 hd (by omega) (by omega) HH.out HOR.out _ hA1.pw).mono ?_; rintro e w3 ⟨⟨y3, v3, rfl, hy3, hv3⟩, hb3⟩; have hp3 := hA1.pw.below hb3) | fail)
    go_returns
    exact ⟨⟨_, _, _, rfl, hy3, hv3⟩, Val.btrans hb1 hb3⟩
   ·go_wp2_with fail
    go_returns
    exact ⟨⟨_, _, _, rfl, hfx, .inl rfl⟩, hb1⟩
  obtain rfl : tr = true := by simpa using ‹(!tr) = false›
  obtain rfl := hok
  go_upto_region 23 with (first | (go_at_call 159; refine (pf64_ans d x _ hd0 hd (by omega) (by omega) HH.out HOR.out _ hA1.pw).mono ?_; rintro e w3 ⟨⟨y3, v3, rfl, hy3, hv3⟩, hb3⟩; have hp3 := hA1.pw.below hb3) | fail)
  go_upto_region 26 with (go_at_call 159; refine (pf64_suc d x _ hd2 (by omega) (by omega) HH.out HOR.out _ hp3).mono ?_; rintro e w4 ⟨⟨y4, v4, rfl, hy4, hv4⟩, hb4⟩)
  go_upto_region 28 with fail
  ·go_returns
   exact ⟨⟨_, _, _, rfl, hy3, hv3⟩, Val.btrans hb1 (Val.btrans hb3 hb4)⟩
  have hA4 := (hA1.below hb3).below hb4
  have hb := Val.btrans hb1 (Val.btrans hb3 hb4)
  have HA4 := Lib.hid hA4; have HB := Lib.hid hb
  clear hA4 hb hA1 hp3 hb3 hb4 hb1 hopt hsb hor
  go_upto_region 31 with (go_at_call 154; refine (Dc.set_any _ _ _ (by rw [ByteArray.size_extract]; omega) (dat_new _)).mono ?_; rintro e w5 ⟨⟨ok2, rfl⟩, ds, dp, hS⟩; have hk5 := (dk_alloc w4 _).trans hS.dk; have hT5 := HA4.out.tb.dk hk5 HA4.out.sz HA4.out.sz)
  ·go_returns
   exact ⟨⟨_, _, _, rfl, by decide, .inr (.inr rfl)⟩, Val.btrans HB.out (hk5.low (Nat.le_refl _) (Nat.le_refl _))⟩
  have HT := Lib.hid hT5
  clear hT5
  go_wp2_with (first | (go_at_call 155; refine (fb_all _ ds dp _ hS.at_ hS.dg hS.hd B R o c HT.out HA4.out.sz (Nat.le_trans HA4.out.sz hk5.size)).mono ?_; rintro e w6 ⟨⟨u, ov, rfl, hu0, hu1⟩, hk6⟩) | (simp only [sfrom_call]) | fail)
  all_goals
   go_returns
   first
    | exact ⟨⟨_, _, _, rfl, nat_bd _ ⟨hu0, hu1⟩, .inr (.inl rfl)⟩, Val.btrans HB.out ((hk5.trans hk6).low (Nat.le_refl _) (Nat.le_refl _))⟩
    | exact ⟨⟨_, _, _, rfl, nat_bd _ ⟨hu0, hu1⟩, .inl rfl⟩, Val.btrans HB.out ((hk5.trans hk6).low (Nat.le_refl _) (Nat.le_refl _))⟩
end Go.Proofs.YtnccpddjdgndcaaGreatDoor.Pf
end

section
/- THE WALK OF strconv.readFloat AT ANY TEXT. -/
namespace Go.Proofs.YtnccpddjdgndcaaGreatDoor.Pf
open Go.RowKit
set_option maxRecDepth 20000 in
set_option maxHeartbeats 2000000 in
theorem rf_any (s : ByteArray) (hs : s.size ≤ 100000) (w : World) : Calls Tryz.prog 148 #[.string s] w fun e w' => RfA s e ∧ Below w.heap.size w w' := by
 by_cases h0 : s.size = 0
 ·have z : ¬ (0 : Int) < (s.size : Int) := by omega
  have z2 : (s.size : Int) = 0 := by omega
  have z3 : (s.size : Int) ≤ 0 := by omega
  go_enter Tryz.func148, Tryz.ntmps148
  go_wp2
  go_step3
  go_upto_region 3 with fail
  rw [Exit.noGoto_ret]
  refine bodyPost_ret (v := .tuple #[.int .u64 0, .int .i64 0, .bool false, .bool false, .bool false, .int .i64 0, .bool false]) (by simp [results, Tryz.results148, go_sem]; try rfl) rfl ?_
  exact ⟨⟨0, 0, false, false, false, 0, false, rfl, by omega, by decide, by decide, by decide, fun h => absurd h (by decide)⟩, Below.refl _ _⟩
 ·obtain ⟨⟨ng, j⟩, hj⟩ : ∃ q, sgP s.data.toList = q := ⟨_, rfl⟩
  cases hx : hexP s.data.toList j
  ·refine (rf_dec s w ng j hs h0 hj hx).mono ?_
   rintro e w' ⟨h, hb⟩
   exact ⟨rfA_of s ng false _ e h, hb⟩
  ·refine (rf_hex s w ng j hs h0 hj hx).mono ?_
   rintro e w' ⟨h, hb⟩
   exact ⟨rfA_of s ng true _ e h, hb⟩
end Go.Proofs.YtnccpddjdgndcaaGreatDoor.Pf
end

section
/- THE WALK OF strconv.ParseFloat: it answers, whatever the text be. -/
namespace Go.Proofs.YtnccpddjdgndcaaGreatDoor.Pf
open Go.RowKit Go.Proofs.YtnccpddjdgndcaaGreatDoor.Fmt
def AnsQ (e : Ending) : Prop := ∃ (y : Nat) (v : Value), e = .returned (.tuple #[.float .f64 y, v]) ∧ y < 18446744073709551616 ∧ ErrQ v
def ErrE (v : Value) : Prop := v = .nilIface ∨ ∃ t p, v = .iface t p
def AnsE (e : Ending) : Prop := ∃ (y : Nat) (v : Value), e = .returned (.tuple #[.float .f64 y, v]) ∧ y < 18446744073709551616 ∧ ErrE v
structure EvT (w : World) : Prop where
 syn : ∃ ev, w.cell? ⟨1, 0, none⟩ = some ev ∧ (ev = .nilIface ∨ ∃ te pe, ev = .iface te pe)
 rng : ∃ ev, w.cell? ⟨5, 0, none⟩ = some ev ∧ (ev = .nilIface ∨ ∃ te pe, ev = .iface te pe)
theorem EvT.below {w w2 : World} (h : EvT w) (hb : Below w.heap.size w w2) : EvT w2 := by
 obtain ⟨⟨a, h1, h2⟩, b, h3, h4⟩ := h
 exact ⟨⟨a, Tab.cell_below hb (Nat.le_refl _) h1, h2⟩, b, Tab.cell_below hb (Nat.le_refl _) h3, h4⟩
theorem fprefix_any (s : ByteArray) (hs : s.size ≤ 100000) (w : World) (B R o c : Nat) (hA : AW w B R o c) :
  Calls Tryz.prog 79 #[.string s, .int .i64 64] w fun e w' => AnsA e ∧ Below w.heap.size w w' := by
 have ha := atof_any s hs (fun W => rf_any s hs W) w B R o c hA
 have HA := Lib.hid ha; clear ha
 go_enter Tryz.func79, Tryz.ntmps79
 go_wp2_with (go_at_call 111; refine HA.out.mono ?_; rintro e w' ⟨⟨y, n, v, rfl, hy, hv⟩, hb⟩)
 go_returns
 exact ⟨⟨_, _, _, rfl, hy, hv⟩, hb⟩
theorem iparse_any (s : ByteArray) (hs : s.size ≤ 100000) (w : World) (B R o c : Nat) (hA : AW w B R o c) :
  Calls Tryz.prog 48 #[.string s, .int .i64 64] w fun e w' => AnsQ e ∧ Below w.heap.size w w' := by
 have ha := fprefix_any s hs w B R o c hA
 have HA := Lib.hid ha; clear ha
 go_enter Tryz.func48, Tryz.ntmps48
 go_wp2_with (go_at_call 79; refine HA.out.mono ?_; rintro e w' ⟨⟨y, n, v, rfl, hy, hv⟩, hb⟩)
 ·go_returns
  exact ⟨⟨_, _, rfl, by decide, .inr (.inr rfl)⟩, hb⟩
 ·go_returns
  exact ⟨⟨_, _, rfl, hy, hv⟩, hb⟩
theorem parse_any (s : ByteArray) (hs : s.size ≤ 100000) (w : World) (B R o c : Nat) (hA : AW w B R o c) (hE : EvT w) :
  Calls Tryz.prog 31 #[.string s, .int .i64 64] w fun e w' => AnsE e ∧ Below w.heap.size w w' := by
 have ha := iparse_any s hs w B R o c hA
 have HA := Lib.hid ha; clear ha
 go_enter Tryz.func31, Tryz.ntmps31
 go_upto_region 2 with (go_at_call 48; refine HA.out.mono ?_; rintro e w1 ⟨⟨y, v, rfl, hy, hv⟩, hb⟩)
 obtain ⟨⟨a, ha1, ha2⟩, b, hb1, hb2⟩ := hE.below hb
 rcases hv with rfl | rfl | rfl
 ·go_wp2_with fail
  go_returns
  exact ⟨⟨_, _, rfl, hy, .inl rfl⟩, hb⟩
 ·go_wp2_with (first | (go_at_call 49; refine (Tryz.strconv_toError_range _ s _ _ _ w1 (by omega) hb1 hb2).mono ?_; rintro e w2 ⟨N, rfl, _, _, hb3⟩) | fail)
  go_returns
  exact ⟨⟨_, _, rfl, hy, .inr ⟨_, _, rfl⟩⟩, Val.btrans hb hb3⟩
 ·go_wp2_with (first | (go_at_call 49; refine (Tryz.strconv_toError_syntax _ s _ _ _ w1 (by omega) ha1 ha2).mono ?_; rintro e w2 ⟨N, rfl, _, _, hb3⟩) | fail)
  go_returns
  exact ⟨⟨_, _, rfl, hy, .inr ⟨_, _, rfl⟩⟩, Val.btrans hb hb3⟩
end Go.Proofs.YtnccpddjdgndcaaGreatDoor.Pf
end

section
/- strconv.ParseInt AT ANY TEXT: it answers. -/
namespace Go.Proofs.YtnccpddjdgndcaaGreatDoor.Pf
open Go.RowKit Go.Proofs.YtnccpddjdgndcaaGreatDoor.Fmt
def AnsZ (e : Ending) : Prop := ∃ (y : Int) (v : Value), e = .returned (.tuple #[.int .i64 y, v]) ∧ -9223372036854775808 ≤ y ∧ y ≤ 9223372036854775807 ∧ ErrE v
theorem pint_any (s : ByteArray) (hs : s.size ≤ 100000) (w : World) (hE : EvT w) :
  Calls Tryz.prog 33 #[.string s, .int .i64 10, .int .i64 64] w fun e w' => AnsZ e ∧ Below w.heap.size w w' := by
 obtain ⟨⟨a, ha1, ha2⟩, b, hb1, hb2⟩ := hE
 rcases h : Lib.parseIntB 64 s.data.toList with v | _ | _
 ·have hv := Lib.parseIntB_bounds h
  refine (Tryz.strconv_ParseInt_10_at64_ok s (by omega) v h w).mono ?_
  rintro e w' ⟨rfl, hw⟩
  refine ⟨⟨v, _, rfl, by have := hv.1; simp at this; omega, by have := hv.2; simp at this; omega, .inl rfl⟩, ?_⟩
  rcases hw with rfl | ⟨t, rfl⟩
  ·exact Below.refl _ _
  ·exact Lib.bytesWorld_below _ _ _
 ·refine (Tryz.strconv_ParseInt_10_at64_syntax s (by omega) h a w ha1 ha2).mono ?_
  rintro e w' ⟨N, rfl, _, _, hb⟩
  exact ⟨⟨0, _, rfl, by decide, by decide, .inr ⟨_, _, rfl⟩⟩, hb⟩
 ·refine (Tryz.strconv_ParseInt_10_at64_range s (by omega) h b w hb1 hb2).mono ?_
  rintro e w' ⟨N, rfl, _, _, hb⟩
  refine ⟨⟨_, _, rfl, ?_, ?_, .inr ⟨_, _, rfl⟩⟩, hb⟩
  ·unfold Lib.intSat; split <;> decide
  ·unfold Lib.intSat; split <;> decide
end Go.Proofs.YtnccpddjdgndcaaGreatDoor.Pf
end

section
/- THE WALK OF value.Print: what a value's text is. -/
namespace Go.Proofs.YtnccpddjdgndcaaGreatDoor.Val
open Go.RowKit Flt
def yesT : List UInt8 := [121, 101, 115]
def noT : List UInt8 := [110, 111]
def vT (v : V) : List UInt8 :=
 if v.kind == 0 then Lib.itoa v.int else if v.kind == 1 then Fmt.fltT (Ord.canon v.num) else if v.kind == 2 then Quo.quoteT Lib.goPrintTabs v.text else if v.yes then yesT else noT
theorem canon_lt (x : Nat) (h : x < 18446744073709551616) : Ord.canon x < 18446744073709551616 := by
 unfold Ord.canon Ord.nan0
 split
 ·decide
 ·split
  ·decide
  ·exact h
theorem flt_ascii (b : Nat) : ∀ c ∈ Fmt.ftoaT b, c.toNat < 128 := by
 intro c hc
 have hx : Fmt.bexp b < 2048 := Nat.mod_lt _ (by decide)
 unfold Fmt.ftoaT at hc
 split at hc
 ·split at hc
  ·simp only [List.mem_cons, List.not_mem_nil, or_false] at hc
   rcases hc with rfl | rfl | rfl <;> decide
  ·split at hc
   ·simp only [List.mem_cons, List.not_mem_nil, or_false] at hc
    rcases hc with rfl | rfl | rfl | rfl <;> decide
   ·simp only [List.mem_cons, List.not_mem_nil, or_false] at hc
    rcases hc with rfl | rfl | rfl | rfl <;> decide
 ·have hs : ∀ c ∈ Fmt.sgn (Fmt.bneg b), c.toNat < 128 := by
   intro c hc
   unfold Fmt.sgn at hc
   split at hc
   ·rw [List.mem_singleton] at hc; subst hc; decide
   ·cases hc
  rename_i h1
  split at hc
  ·rcases List.mem_append.1 hc with hc | hc
   ·exact hs c hc
   ·rw [List.mem_singleton] at hc; subst hc; decide
  ·rename_i h2
   rcases List.mem_append.1 hc with hc | hc
   ·exact hs c hc
   ·rcases (Fmt.Num.mk (by omega) (by omega) : Fmt.Num b).isN c hc with h | h | h | h | h
    ·unfold Fmt.IsD at h; omega
    all_goals (subst h; decide)
theorem flt_len (b : Nat) : (Fmt.ftoaT b).length ≤ 1000 := by
 have hx : Fmt.bexp b < 2048 := Nat.mod_lt _ (by decide)
 unfold Fmt.ftoaT
 split
 ·split
  ·decide
  ·split <;> decide
 ·have hs : (Fmt.sgn (Fmt.bneg b)).length ≤ 1 := by unfold Fmt.sgn; split <;> decide
  rename_i h1
  split
  ·rw [List.length_append, List.length_singleton]; omega
  ·rename_i h2
   have hn := (Fmt.Num.mk (by omega) (by omega) : Fmt.Num b)
   obtain ⟨f1, f2, f3, f4⟩ := hn.facts
   obtain ⟨g1, g2, g3, g4⟩ := hn.nd
   rw [List.length_append]
   have : (Fmt.numT b).length ≤ 900 := by
    unfold Fmt.numT
    generalize Fmt.digs _ = D at *
    generalize (Lib.nDigits (Fmt.short (Fmt.fm b) (Fmt.fE b)).1 : Nat) = n at *
    generalize (Fmt.short (Fmt.fm b) (Fmt.fE b)).2 = p at *
    unfold Fmt.gText
    split
    ·unfold Fmt.eText Fmt.exps
     simp only [List.length_append, List.length_cons, List.length_nil]
     split <;> split <;> split <;> simp <;> omega
    ·unfold Fmt.fText
     rw [List.length_append]
     split <;> split <;> simp <;> omega
   omega
theorem badd (s t : List UInt8) : (⟨s.toArray⟩ : ByteArray) ++ ⟨t.toArray⟩ = ⟨(s ++ t).toArray⟩ := by
 apply ByteArray.ext
 simp
theorem quote_at (t : List UInt8) (W : World) (hl : t.length ≤ 1000000) (hW : Tab.Tabs W) :
  Calls Tryz.prog 37 #[.string ⟨t.toArray⟩] W fun e w' => e = .returned (.string ⟨(Quo.quoteT Lib.goPrintTabs t).toArray⟩) ∧ Below W.heap.size W w' := by
 have h : (⟨t.toArray⟩ : ByteArray).size = t.length := by simp [ByteArray.size]
 exact Tryz.strconv_Quote Lib.goPrintTabs ⟨t.toArray⟩ W (by rw [h]; omega) hW.prt hW.utf
theorem itoa_at (n : Int) (W : World) (h0 : -9223372036854775808 ≤ n) (h1 : n ≤ 9223372036854775807) (hW : Fmt.P10 W) :
  Calls Tryz.prog 35 #[.int .i64 n, .int .i64 10] W fun e w' => e = .returned (.string ⟨(Lib.itoa n).toArray⟩) ∧ Below W.heap.size W w' := by
 refine (Tryz.strconv_FormatInt_10 n h0 h1 W hW).mono ?_
 rintro e w' ⟨rfl, k, os, rfl⟩
 exact ⟨rfl, Go.Lib.below_grow _ _ (Nat.le_refl _) _ _⟩
theorem any_at (t : List UInt8) (W : World) (ha : ∀ c ∈ t, c.toNat < 128) (hl : t.length ≤ 1000) :
  Calls Tryz.prog 30 #[.string ⟨t.toArray⟩, .string ⟨#[46, 101, 73, 78]⟩] W fun e w' => e = .returned (.bool (Fmt.marked t)) ∧ Below W.heap.size W w' := by
 have h : (⟨t.toArray⟩ : ByteArray).size = t.length := by simp [ByteArray.size]
 refine Tryz.strings_ContainsAny_laid ⟨t.toArray⟩ ⟨#[46, 101, 73, 78]⟩ W (by rw [h]; omega) (by decide) (fun j b hb => ha b ?_) (fun j b hb => ?_)
 ·exact List.mem_of_getElem? hb
 ·have : b ∈ [46, 101, 73, 78] := List.mem_of_getElem? hb
  simp only [List.mem_cons, List.not_mem_nil, or_false] at this
  rcases this with rfl | rfl | rfl | rfl <;> decide
set_option maxRecDepth 20000 in
set_option maxHeartbeats 1000000 in
theorem vprint_any (k n : Int) (x : Nat) (t : List UInt8) (y : Bool) (w : World) (hx : x < 18446744073709551616) (h0 : -9223372036854775808 ≤ n) (h1 : n ≤ 9223372036854775807) (hl : t.length ≤ 1000000) (hT : Tab.Tabs w) :
  Calls Tryz.prog 13 #[val k n x t y] w fun e w' => e = .returned (.string ⟨(vT ⟨k, n, x, t, y⟩).toArray⟩) ∧ Below w.heap.size w w' := by
 have hr : vT ⟨k, n, x, t, y⟩ = (if k == 0 then Lib.itoa n else if k == 1 then Fmt.fltT (Ord.canon x) else if k == 2 then Quo.quoteT Lib.goPrintTabs t else if y then yesT else noT) := rfl
 have HT := Lib.hid hT; clear hT
 cases q0 : (k == 0)
 ·cases q1 : (k == 1)
  ·cases q2 : (k == 2)
   ·rw [q0, q1, q2] at hr
    cases y
    all_goals
     rw [hr]; clear hr
     go_enter Tryz.func13, Tryz.ntmps13
     go_wp2
     go_ret
     exact ⟨rfl, balloc _ _⟩
   ·rw [q0, q1, q2] at hr
    have HR := Lib.hid hr; clear hr
    have hq := fun W hW => quote_at t W hl hW
    have HQ := Lib.hid hq; clear hq
    go_enter Tryz.func13, Tryz.ntmps13
    go_wp2_with (first | (go_at_call 37; refine (HQ.out _ (HT.out.below (by first | exact balloc _ _ | exact (balloc _ _).drew) (Nat.le_refl _))).mono ?_; rintro e w1 ⟨rfl, hb1⟩; have HB := Lib.hid hb1; clear hb1) | fail)
    go_ret
    exact ⟨by rw [HR.out]; rfl, btrans (by first | exact balloc _ _ | exact (balloc _ _).drew) HB.out⟩
  ·rw [q0, q1] at hr
   have hf := fun W hW => Fmt.format_any (Ord.canon x) W (canon_lt x hx) (Tab.Tabs.pow hW) (Tab.Tabs.p10 hW)
   have hm := fun W => any_at (Fmt.ftoaT (Ord.canon x)) W (flt_ascii _) (flt_len _)
   have ht : Fmt.fltT (Ord.canon x) = if Fmt.marked (Fmt.ftoaT (Ord.canon x)) then Fmt.ftoaT (Ord.canon x) else Fmt.ftoaT (Ord.canon x) ++ [46, 48] := rfl
   have hlen := flt_len (Ord.canon x)
   rw [ht] at hr
   clear ht
   generalize Fmt.ftoaT (Ord.canon x) = s at *
   cases hmk : Fmt.marked s
   all_goals
    rw [hmk] at hr hm
    clear hmk
    have HR := Lib.hid hr; clear hr
    have HF := Lib.hid hf; have HM := Lib.hid hm; clear hf hm
    go_enter Tryz.func13, Tryz.ntmps13
    go_wp2_with (first | (go_at_call 32; refine (Ord.canon_any _ _).mono ?_; rintro e w' ⟨rfl, rfl⟩) | (go_at_call 36; refine (HF.out _ (HT.out.below (by first | exact balloc _ _ | exact (balloc _ _).drew) (Nat.le_refl _))).mono ?_; rintro e w1 ⟨rfl, hb1⟩; have HB := Lib.hid hb1; clear hb1) | (go_at_call 30; refine (HM.out _).mono ?_; rintro e w2 ⟨rfl, hb2⟩; have HC := Lib.hid hb2; clear hb2) | fail)
    go_ret
    exact ⟨by rw [HR.out]; first | rfl | exact congrArg (fun z => Ending.returned (Value.string z)) (badd s [46, 48]), btrans (btrans (by first | exact balloc _ _ | exact (balloc _ _).drew) HB.out) HC.out⟩
 ·rw [q0] at hr
  have HR := Lib.hid hr; clear hr
  have hf := fun W hW => itoa_at n W h0 h1 (Tab.Tabs.p10 hW)
  have HF := Lib.hid hf; clear hf
  go_enter Tryz.func13, Tryz.ntmps13
  go_wp2_with (first | (go_at_call 35; refine (HF.out _ (HT.out.below (by first | exact balloc _ _ | exact (balloc _ _).drew) (Nat.le_refl _))).mono ?_; rintro e w1 ⟨rfl, hb1⟩; have HB := Lib.hid hb1; clear hb1) | fail)
  go_ret
  exact ⟨by rw [HR.out]; rfl, btrans (by first | exact balloc _ _ | exact (balloc _ _).drew) HB.out⟩
end Go.Proofs.YtnccpddjdgndcaaGreatDoor.Val
end

section
/- THE WALK OF strconv.Unquote AT A TEXT BETWEEN QUOTES that needs no escapes. -/
namespace Go.Proofs.YtnccpddjdgndcaaGreatDoor.Unq
open Go.RowKit Go.Lib
theorem ibs_call (s : ByteArray) (c : Int) (w : World) : (callFunc 101 #[.string s, .int .u8 c]).run Tryz.prog w = .ok (.value (.int .i64 (Lib.indexByte s.data.toList c.toNat.toUInt8))) w := by
 rw [run_callFunc_extern Tryz.func101 (by kernel_rfl) (by kernel_rfl) (by kernel_rfl) (e := Extern.BytealgIndexByte.indexByte) (by kernel_rfl), Lib.run_indexByteString]
 rfl
set_option maxHeartbeats 400000 in
theorem index_any (s : ByteArray) (c : Int) (w : World) : Calls Tryz.prog 70 #[.string s, .int .u8 c] w fun e w' => e = .returned (.int .i64 (Lib.indexByte s.data.toList c.toNat.toUInt8)) ∧ w = w' := by
 go_enter Tryz.func70, Tryz.ntmps70
 go_wp2_with (first | (simp only [ibs_call]) | fail)
 go_ret
 exact ⟨rfl, rfl⟩
theorem contains_of (s : ByteArray) (c : Int) (b : Bool) (hb : (Lib.indexByte s.data.toList c.toNat.toUInt8 != -1) = b) (w : World) : Calls Tryz.prog 71 #[.string s, .int .u8 c] w fun e w' => e = .returned (.bool b) ∧ w = w' := by
 go_enter Tryz.func71, Tryz.ntmps71
 go_wp2_with (go_at_call 70; refine (index_any _ _ _).mono ?_; rintro e w' ⟨rfl, rfl⟩)
 go_ret
 exact ⟨rfl, rfl⟩
theorem ix_none : ∀ (l : List UInt8) (c : UInt8), c ∉ l → Lib.indexByte l c = -1
 | [], _, _ => rfl
 | a :: l, c, h => by
  have h1 : (a == c) = false := by rw [beq_eq_false_iff_ne]; exact fun e => h (by simp [e])
  unfold Lib.indexByte
  rw [h1, ix_none l c (fun m => h (by simp [m]))]; rfl
theorem ix_end : ∀ (l : List UInt8) (c : UInt8), c ∉ l → Lib.indexByte (l ++ [c]) c = (l.length : Int)
 | [], c, _ => by simp [Lib.indexByte]
 | a :: l, c, h => by
  have h1 : (a == c) = false := by rw [beq_eq_false_iff_ne]; exact fun e => h (by simp [e])
  have h2 : ((l.length : Int) == -1) = false := by rw [beq_eq_false_iff_ne]; omega
  rw [List.cons_append]
  unfold Lib.indexByte
  rw [h1, ix_end l c (fun m => h (by simp [m])), h2]; simp
theorem ext_list2 (l : List UInt8) (a b : Nat) : (⟨l.toArray⟩ : ByteArray).extract a b = ⟨((l.drop a).take (b - a)).toArray⟩ := by
 have h := Lib.extract_data (⟨l.toArray⟩ : ByteArray) a b
 apply ByteArray.ext
 rw [← Array.toArray_toList (xs := ((⟨l.toArray⟩ : ByteArray).extract a b).data), h]
set_option maxRecDepth 100000 in
set_option maxHeartbeats 4000000 in
theorem unquote_of (s t bd : ByteArray) (n : Nat) (w : World) (hn : n ≤ 1000000) (hz : s.size = n + 2) (h0 : (s[0]'(by omega)).toNat = 34)
  (e1 : s.extract 1 (n + 2) = t) (e2 : s.extract 0 (n + 2) = s) (e3 : s.extract 1 (n + 1) = bd)
  (hi : Lib.indexByte t.data.toList 34 = (n : Int)) (hb : Lib.indexByte s.data.toList 92 = -1) (hl : Lib.indexByte s.data.toList 10 = -1) (hv : Lib.validD bd.data.toList = true) (hbs : bd.size ≤ 1000000) (hT : Tab.Tabs w) :
  Calls Tryz.prog 46 #[.string s, .bool true] w fun e w' => e = .returned (.tuple #[.string bd, .string ⟨#[]⟩, .nilIface]) ∧ Below w.heap.size w w' := by
 have hu := fun W (hW : Lib.Utf8Tabs 3 4 W) => (Go.Proofs.Any.utf8_ValidString Tryz.lays196 bd W (by omega) hW)
 rw [hv] at hu
 have hc1 := fun W => contains_of s 92 false (by rw [show ((92 : Int).toNat.toUInt8) = 92 from rfl, hb]; rfl) W
 have hc2 := fun W => contains_of s 10 false (by rw [show ((10 : Int).toNat.toUInt8) = 10 from rfl, hl]; rfl) W
 have hix := fun W => index_any t 34 W
 rw [show ((34 : Int).toNat.toUInt8) = 34 from rfl, hi] at hix
 have HU := Lib.hid hu; have HC1 := Lib.hid hc1; have HC2 := Lib.hid hc2; have HI := Lib.hid hix; have HT := Lib.hid hT
 clear hu hc1 hc2 hix hT hi hb hl hv
 go_enter Tryz.func46, Tryz.ntmps46
 go_wp2_with (first
  | (go_at_call 70; refine (HI.out _).mono ?_; rintro e w' ⟨rfl, rfl⟩)
  | (go_at_call 71; ((with_reducible refine (HC1.out _).mono ?_); rintro e w' ⟨rfl, rfl⟩))
  | (go_at_call 71; ((with_reducible refine (HC2.out _).mono ?_); rintro e w' ⟨rfl, rfl⟩))
  | (go_at_call 72; refine (HU.out _ HT.out.utf).mono ?_; rintro e w1 ⟨rfl, hb1⟩) | fail)
 go_quiet (fail)
 go_wp2
 go_ret3
 refine ⟨?_, Val.bdrewN hb1 nq⟩
 simp
 exact ⟨e3, rfl⟩
set_option maxHeartbeats 1000000 in
theorem unq_any (body : List UInt8) (w : World) (h34 : 34 ∉ body) (h92 : 92 ∉ body) (h10 : 10 ∉ body) (hv : Lib.validD body = true) (hl : body.length ≤ 100000) (hT : Tab.Tabs w) :
  Calls Tryz.prog 29 #[.string ⟨(34 :: (body ++ [34])).toArray⟩] w fun e w' => e = .returned (.tuple #[.string ⟨body.toArray⟩, .nilIface]) ∧ Below w.heap.size w w' := by
 have hz : (⟨(34 :: (body ++ [34])).toArray⟩ : ByteArray).size = body.length + 2 := by show (34 :: (body ++ [34])).toArray.size = _; simp
 have hu := unquote_of ⟨(34 :: (body ++ [34])).toArray⟩ ⟨(body ++ [34]).toArray⟩ ⟨body.toArray⟩ body.length w (by omega) hz rfl
  (by rw [ext_list2, List.take_of_length_le (by simp)]; rfl) (by rw [ext_list2, List.take_of_length_le (by simp)]; rfl)
  (by rw [ext_list2, List.drop_succ_cons, List.drop_zero, show body.length + 1 - 1 = body.length by omega, List.take_left' rfl])
  (ix_end body 34 h34) (ix_none _ 92 (by simp [h92])) (ix_none _ 10 (by simp [h10])) hv (by show body.toArray.size ≤ _; simp; omega) hT
 have HU := Lib.hid hu
 clear hu hz h34 h92 h10 hv hT
 go_enter Tryz.func29, Tryz.ntmps29
 go_wp2_with (go_at_call 46; refine HU.out.mono ?_; rintro e w1 ⟨rfl, hb1⟩)
 go_ret2
 exact ⟨rfl, hb1⟩
end Go.Proofs.YtnccpddjdgndcaaGreatDoor.Unq
end

section
/- THE WALK OF strconv.unquote AT ANY TEXT THAT A QUOTE BEGINS. -/
namespace Go.Proofs.YtnccpddjdgndcaaGreatDoor.Unq
open Go.RowKit Go.Lib Go.Proofs.YtnccpddjdgndcaaGreatDoor.Quo
def uqR (r : List UInt8) : Option (List UInt8 × List UInt8) :=
 if Lib.indexByte r 34 < 0 then none
 else if 92 ∉ r.take (Lib.indexByte r 34).toNat ∧ 10 ∉ r.take (Lib.indexByte r 34).toNat ∧ Lib.validD (r.take (Lib.indexByte r 34).toNat) = true then some (r.take (Lib.indexByte r 34).toNat, r.drop ((Lib.indexByte r 34).toNat + 1))
 else uqGo (r.length + 1) r []
def UnR (s : ByteArray) (o : Option (List UInt8 × List UInt8)) (e : Ending) : Prop :=
 match o with
 | none => ∃ (t : TypeId) (x : Value), e = .returned (.tuple #[.string ⟨#[]⟩, .string s, .iface t x])
 | some (a, b) => e = .returned (.tuple #[.string ⟨a.toArray⟩, .string ⟨b.toArray⟩, .nilIface])
theorem app_len (v : Int) (mb : Bool) : (app v mb).length ≤ 4 := by
 unfold app
 split
 ·simp
 ·rw [List.length_map]
  unfold encodeRuneZ
  repeat' split
  all_goals simp
theorem wpList_byte {ops : Array Oper} {rest : List Oper} {o : Oper} {a : Act} {Q : Exit → Act → World → Prop} {w0 W : World} {base : Nat} {txt : List UInt8}
  (hgd : o.guard = none) (s x : Operand) (ho : o.op = .call { callee := .builtin .append, args := #[s, x], argTypes := #[95, 95] })
  (hs : Fmt.St w0 W base none (a.eval s) txt) (ad : Addr) (c : Nat) (b : UInt8) (hx : a.eval x = .slice (some ad) 1 c)
  (hnews : ∀ j u, [Fmt.e8 b][j]? = some u → W.cell? (ad.add j) = some u) (hb : txt.length ≤ 1000000)
  (h : ∀ v' w', Fmt.St w0 w' base none v' (txt ++ [b]) → wpList Tryz.prog ops Q rest (a.put o.dst v') w') : wpList Tryz.prog ops Q (o :: rest) a W := by
 obtain ⟨i0, hi, hz⟩ := Option.map_eq_some_iff.1 Fmt.info_u8
 injection hz with hz0 hzz
 injection hzz with hz1 hz2
 refine wpList_append_own _ hgd s x 95 ho base 5 i0 (.int .u8 0) 1 1 Tryz.underlying95 hi hz0 hz1 hz2 rfl (by decide) _ _ _ rfl hs.own ad 1 c [Fmt.e8 b] hx rfl hnews
  (by intro u hu; simp at hu; subst hu; rfl) (by unfold maxLen; omega) (by omega) hs.size ?_
 intro v' w3 ho3 hg _
 exact h v' w3 (hs.step0 ho3 hg rfl rfl)
theorem st_rune {w0 W w3 : World} {base : Nat} {v v' : Value} {txt : List UInt8} {r : Int} (h : Fmt.St w0 W base none v txt) (o : Obj)
  (ho : w3.ownsRow base 5 1 v' (txt.length + (Lib.runeCells r).length) (txt.map Fmt.e8 ++ Lib.runeCells r)) (hg : (W.alloc o).grownBy w3 v.ownBlock) : Fmt.St w0 w3 base none v' (txt ++ (encodeRuneZ r).map tb) := by
 refine h.step ho hg ?_ ?_
 ·unfold Lib.runeCells
  rw [List.map_map]
  apply List.map_congr_left
  intro x hx
  have hb := Lib.encodeRuneZ_byte r x hx
  show Value.int .u8 x = Value.int .u8 ((tb x).toNat : Int)
  rw [tb_nat hb.1 hb.2]
 ·unfold Lib.runeCells
  rw [List.length_map, List.length_map]
theorem list_ne (s : ByteArray) (h : 0 < s.size) : s.data.toList = (s[0]'h) :: s.data.toList.drop 1 := uqc_at s h
theorem uqGo_nil (g : Nat) (out : List UInt8) : uqGo (g + 1) [] out = none := rfl
theorem uqGo_end (g : Nat) (c : UInt8) (r out : List UInt8) (h : (c.toNat : Int) = 34) : uqGo (g + 1) (c :: r) out = some (out, r) := by unfold uqGo; simp only; rw [if_pos h]
theorem uqGo_nl (g : Nat) (c : UInt8) (r out : List UInt8) (h : ¬ (c.toNat : Int) = 34) (h2 : (c.toNat : Int) = 10) : uqGo (g + 1) (c :: r) out = none := by unfold uqGo; simp only; rw [if_neg h, if_pos h2]
theorem uqGo_none (g : Nat) (c : UInt8) (r out : List UInt8) (h : ¬ (c.toNat : Int) = 34) (hu : uqc (c :: r) = none) : uqGo (g + 1) (c :: r) out = none := by
 unfold uqGo; simp only; rw [if_neg h]
 split
 ·rfl
 ·rw [hu]
theorem uqGo_eq (g : Nat) (c : UInt8) (r out : List UInt8) : uqGo (g + 1) (c :: r) out = if (c.toNat : Int) = 34 then some (out, r) else if (c.toNat : Int) = 10 then none else match uqc (c :: r) with
    | none => none
    | some (v, mb, t) => uqGo g t (out ++ app v mb) := rfl
theorem uqGo_some (g : Nat) (c : UInt8) (r out : List UInt8) (v : Int) (mb : Bool) (t : List UInt8) (h : ¬ (c.toNat : Int) = 34) (h2 : ¬ (c.toNat : Int) = 10) (hu : uqc (c :: r) = some (v, mb, t)) : uqGo (g + 1) (c :: r) out = uqGo g t (out ++ app v mb) := by
 rw [uqGo_eq, if_neg h, if_neg h2, hu]
theorem hexGo_bds : ∀ (n : Nat) (l : List UInt8) (v x : Int) (q : List UInt8), -2147483648 ≤ v ∧ v ≤ 2147483647 → hexGo n l v = some (x, q) → q.length ≤ l.length ∧ -2147483648 ≤ x ∧ x ≤ 2147483647
 | 0, l, v, x, q, hv, h => by
  unfold hexGo at h
  cases h
  exact ⟨Nat.le_refl _, hv⟩
 | n + 1, [], v, x, q, hv, h => by cases h
 | n + 1, c :: l, v, x, q, hv, h => by
  unfold hexGo at h
  split at h
  ·cases h
  ·obtain ⟨a, b⟩ := hexGo_bds n l _ x q (or_i32_bd _ _) h
   exact ⟨by rw [List.length_cons]; omega, b⟩
theorem octGo_bds : ∀ (n : Nat) (l : List UInt8) (v x : Int) (q : List UInt8), -2147483648 ≤ v ∧ v ≤ 2147483647 → octGo n l v = some (x, q) → q.length ≤ l.length ∧ -2147483648 ≤ x ∧ x ≤ 2147483647
 | 0, l, v, x, q, hv, h => by
  unfold octGo at h
  cases h
  exact ⟨Nat.le_refl _, hv⟩
 | n + 1, [], v, x, q, hv, h => by cases h
 | n + 1, c :: l, v, x, q, hv, h => by
  unfold octGo at h
  split at h
  ·cases h
  ·obtain ⟨a, b⟩ := octGo_bds n l _ x q (or_i32_bd _ _) h
   exact ⟨by rw [List.length_cons]; omega, b⟩
theorem esc1_bds (e v : Int) (h : esc1 e = some v) : 0 ≤ v ∧ v ≤ 92 := by
 unfold esc1 at h
 repeat' split at h
 all_goals first | (cases h; done) | (injection h with h; omega)
theorem uqc_bds (l : List UInt8) (v : Int) (mb : Bool) (t : List UInt8) (h : uqc l = some (v, mb, t)) : t.length < l.length ∧ -2147483648 ≤ v ∧ v ≤ 2147483647 := by
 cases l with
 | nil => cases h
 | cons c r =>
  have hc := c.toNat_lt
  by_cases b34 : (c.toNat : Int) = 34
  ·rw [uqc_34 c r b34] at h; cases h
  by_cases b128 : 128 ≤ (c.toNat : Int)
  ·rw [uqc_128 c r b34 b128] at h
   simp only [Option.some.injEq, Prod.mk.injEq] at h
   obtain ⟨h1, _, h3⟩ := h
   obtain ⟨s1, s2, s3, s4⟩ := sym_ok (c :: r) (by simp)
   subst h3
   have hd : (decodeL (c :: r)).1 ≤ 1114111 := by
    by_cases hb : (decodeL (c :: r)).2 = 1 ∧ (decodeL (c :: r)).1 = 65533
    ·omega
    ·have hs : symOf (c :: r) = ((decodeL (c :: r)).1 : Int) := by unfold symOf; rw [if_neg hb]
     unfold Sym at s1
     omega
   rw [List.length_drop]
   omega
  by_cases b92 : (c.toNat : Int) = 92
  ·cases r with
   | nil => rw [uqc_end c b92] at h; cases h
   | cons e t2 =>
    rw [uqc_92 c e t2 b92] at h
    have he := e.toNat_lt
    rw [List.length_cons, List.length_cons]
    split at h
    ·rename_i v2 hv2
     simp only [Option.some.injEq, Prod.mk.injEq] at h
     obtain ⟨rfl, _, rfl⟩ := h
     have := esc1_bds _ _ hv2
     omega
    ·split at h
     ·cases hh : hexGo (escN (e.toNat : Int)) t2 0 with
      | none => rw [hh] at h; cases h
      | some xq =>
       obtain ⟨x, q⟩ := xq
       have hb := hexGo_bds _ _ 0 x q (by omega) hh
       rw [hh] at h
       unfold hexR at h
       simp only at h
       split at h
       ·simp only [Option.some.injEq, Prod.mk.injEq] at h
        obtain ⟨rfl, _, rfl⟩ := h
        omega
       ·split at h
        ·simp only [Option.some.injEq, Prod.mk.injEq] at h
         obtain ⟨rfl, _, rfl⟩ := h
         omega
        ·cases h
     ·split at h
      ·cases hh : octGo 2 t2 ((e.toNat : Int) - 48) with
       | none => rw [hh] at h; cases h
       | some xq =>
        obtain ⟨x, q⟩ := xq
        have hb := octGo_bds _ _ ((e.toNat : Int) - 48) x q (by omega) hh
        rw [hh] at h
        unfold octR at h
        simp only at h
        split at h
        ·cases h
        ·simp only [Option.some.injEq, Prod.mk.injEq] at h
         obtain ⟨rfl, _, rfl⟩ := h
         omega
      ·cases h
  ·rw [uqc_pl c r b34 b128 b92] at h
   simp only [Option.some.injEq, Prod.mk.injEq] at h
   obtain ⟨rfl, _, rfl⟩ := h
   rw [List.length_cons]
   omega
end Go.Proofs.YtnccpddjdgndcaaGreatDoor.Unq
end

section
/- THE WALK OF strconv.unquote AT ANY TEXT THAT A QUOTE BEGINS (the slow road). -/
namespace Go.Proofs.YtnccpddjdgndcaaGreatDoor.Unq
open Go.RowKit Go.Lib Go.Proofs.YtnccpddjdgndcaaGreatDoor.Quo
def szOf : Value → Nat
 | .string s => s.size
 | _ => 0
theorem st_pass {w0 W W2 : World} {base : Nat} {v : Value} {txt : List UInt8} (h : Fmt.St w0 W base none v txt) (hb : Below W.heap.size W W2) : Fmt.St w0 W2 base none v txt :=
 ⟨Fmt.own_low h.own hb h.own_lt, fun p hp => (by cases hp), h.low.trans (hb.mono h.size), Nat.le_trans h.size hb.size⟩
theorem err_below {w w' : World} (h : ErrS w) (hb : Below w.heap.size w w') : ErrS w' := by
 obtain ⟨t, x, h⟩ := h
 exact ⟨t, x, Tab.cell_below hb (Nat.le_refl _) h⟩
theorem idx_in (k : UInt8) (a : List UInt8) (hk : k ≠ 34) : (Lib.indexByte (34 :: (a ++ [34])) k != -1) = decide (k ∈ a) := by
 by_cases h : k ∈ a
 ·obtain ⟨x, y, e, _, hi⟩ := ix_cases k (34 :: (a ++ [34])) (by simp [h])
  rw [hi, decide_eq_true h]
  simp
 ·rw [ix_none _ k (by simp [h, hk]), decide_eq_false h]
  rfl
theorem conv_back {w W : World} {base : Nat} {v : Value} {out : List UInt8} (h : Fmt.St w W base none v out) : (convert 95 9 v).run Tryz.prog W = .ok (.string ⟨out.toArray⟩) W := by
 rcases Go.Joins.ownsRow_forms h.own with ⟨e, e0⟩ | ⟨g, cap, e⟩
 ·have : out = [] := List.length_eq_zero_iff.1 e0
  subst e this
  rw [run_convert_bytes_string W 95 9 5 none 0 0 Tryz.underlying95 Tryz.underlying5 Tryz.underlying9]
  rfl
 ·have ho := h.own
  rw [e] at ho
  subst e
  exact run_convert_bytes_back W 95 9 5 ⟨g, 0, none⟩ cap out Tryz.underlying95 Tryz.underlying5 Tryz.underlying9 (Fmt.own_cells ho)
theorem u8_wrap (v : Int) : IntKind.u8.wrap v = v % 256 := by go_num
theorem new_byte (w : World) (v : Int) (t : TypeId) : ∀ j u, [Fmt.e8 (tb (v % 256))][j]? = some u → (w.alloc (.cells #[.int .u8 (IntKind.u8.wrap v)] t)).cell? ((⟨w.heap.size, 0, none⟩ : Addr).add j) = some u := by
 have e : Fmt.e8 (tb (v % 256)) = .int .u8 (IntKind.u8.wrap v) := by
  show Value.int .u8 ((tb (v % 256)).toNat : Int) = _
  rw [tb_nat (by omega) (by omega), u8_wrap]
 rw [e]
 exact Fmt.cells_new1 w _ t
set_option maxRecDepth 20000 in
set_option maxHeartbeats 4000000 in
theorem unq_slow (s t u : ByteArray) (n : Nat) (H : Option (List UInt8 × List UInt8)) (b92 b10 bv : Bool) (hq : (!b92 && !b10 && bv) = false) (hs : s.size ≤ 10000) (h0 : 0 < s.size) (h34 : ((s[0]'h0).toNat : Int) = 34) (ht : s.extract 1 s.size = t) (hn : n + 2 ≤ s.size)
  (hts : t.size + 1 = s.size) (hix : Lib.indexByte t.data.toList 34 = (n : Int)) (hu : s.extract 0 (n + 2) = u) (hc1 : (Lib.indexByte u.data.toList 92 != -1) = b92) (hc2 : (Lib.indexByte u.data.toList 10 != -1) = b10)
  (hv : Lib.validD (s.extract 1 (n + 1)).data.toList = bv) (hH : uqGo (t.size + 1) t.data.toList [] = H) (w : World) (hE : ErrS w) (hT : Tab.Tabs w) :
  Calls Tryz.prog 46 #[.string s, .bool true] w fun e w' => UnR s H e ∧ Below w.heap.size w w' := by
 obtain ⟨i0, hi, hz0, hz1, hz2⟩ := info_parts Fmt.info_u8
 have hxs : (s.extract 1 (n + 1)).size ≤ 1000000 := by simp [ByteArray.size_extract]; omega
 have hva := fun W (hW : Lib.Utf8Tabs 3 4 W) => (Go.Proofs.Any.utf8_ValidString Tryz.lays196 (s.extract 1 (n + 1)) W (by omega) hW)
 rw [hv] at hva
 have hd1 := fun W => contains_of u 92 b92 (by rw [show ((92 : Int).toNat.toUInt8) = 92 from rfl]; exact hc1) W
 have hd2 := fun W => contains_of u 10 b10 (by rw [show ((10 : Int).toNat.toUInt8) = 10 from rfl]; exact hc2) W
 have hin := fun W => index_any t 34 W
 rw [show ((34 : Int).toNat.toUInt8) = 34 from rfl, hix] at hin
 have HVA := Lib.hid hva; have HD1 := Lib.hid hd1; have HD2 := Lib.hid hd2; have HIN := Lib.hid hin; have HT := Lib.hid hT; have HE := Lib.hid hE; have HH := Lib.hid hH
 obtain ⟨c, hcap⟩ : ∃ c : Nat, 3 * ((n : Int) + 2) / 2 = (c : Int) := ⟨3 * (n + 2) / 2, by omega⟩
 have hcb : c ≤ 100000 := by omega
 have j0 : (0 : Int) < (s.size : Int) := by omega
 have j1 : (1 : Int) ≤ (s.size : Int) := by omega
 have j2 : ¬ (s.size : Int) < 2 := by omega
 have j3 : (n : Int) + 2 ≤ (s.size : Int) := by omega
 have j4 : (0 : Int) ≤ (n : Int) + 2 := by omega
 have j5 : ¬ (n : Int) < 0 := by omega
 clear hva hd1 hd2 hin hT hE hH hv hc1 hc2 hix
 go_enter Tryz.func46, Tryz.ntmps46
 go_upto_region 25 with (first | (go_at_call 70; refine (HIN.out _).mono ?_; rintro e w' ⟨rfl, rfl⟩) | fail)
 go_cut [99] from 88 to 98 (fun v wx => v = .bool (!b92 && !b10) ∧ w = wx)
 case first => as_aux_lemma =>
  have ARM : True := trivial
  cases b92 <;> cases b10
  all_goals
   go_wp2_with (first | (go_at_call 71; ((with_reducible refine (HD1.out _).mono ?_); rintro e w' ⟨rfl, rfl⟩)) | (go_at_call 71; ((with_reducible refine (HD2.out _).mono ?_); rintro e w' ⟨rfl, rfl⟩)) | fail)
   go_meet
   exact ⟨rfl, rfl⟩
 case rest => as_aux_lemma =>
  obtain ⟨rfl, rfl⟩ := hcut
  go_upto_if 99 with fail
  go_cut [] from 99 to 143 (fun wx => Hid (Below w.heap.size w wx))
  case first => as_aux_lemma =>
   cases hqq : (!b92 && !b10)
   ·go_wp2_with fail
    go_meet
    exact Lib.hid (Below.refl _ _)
   ·rw [hqq, Bool.true_and] at hq
    subst hq
    go_wp2_with (first | (go_at_call 72; refine (HVA.out _ HT.out.utf).mono ?_; rintro e w1 ⟨rfl, hb1⟩) | fail)
    go_meet
    exact Lib.hid hb1
  case rest => as_aux_lemma =>
   have HBW := hcut
   go_wp2_with (first | (at_make; refine wpList_make_own _ rfl _ _ 95 rfl w.heap.size 5 i0 (.int .u8 0) 1 Tryz.underlying95 hi hz0 hz1 _ _ _ c rfl rfl (by first | rfl | assumption) (by rw [hz2]; omega) (by unfold maxLen; omega) HBW.out.size ?_; intro w1 hown hg) | fail)
   have HS1 := Lib.hid (⟨hown, fun p hp => (by cases hp), HBW.out.grown hg HBW.out.size (by intro k hk; cases hk), Nat.le_trans HBW.out.size hg.size⟩ : Fmt.St w w1 w.heap.size none _ [])
   clear hown hg
   go_loopw [0, 14] (fun v0 v14 wr => ∃ (q : ByteArray) (out : List UInt8) (g : Nat), v0 = .string q ∧ Hid (Fmt.St w wr w.heap.size none v14 out) ∧ q.size + 1 ≤ g ∧ q.size ≤ 10000 ∧ out.length + 4 * q.size ≤ 50000 ∧ Hid (uqGo g q.data.toList out = H)) (fun v0 _ _ => szOf v0)
   case atStart => exact ⟨t, [], t.size + 1, rfl, Lib.hid HS1.out, by omega, by omega, by simp; omega, Lib.hid HH.out⟩
   case round =>
    obtain ⟨q, out, g, rfl, HS, hg1, hq1, ho1, HG⟩ := hrel
    clear HS1
    obtain ⟨tE, xE, hc⟩ := err_below HE.out HS.out.low
    by_cases hq0 : q.size = 0
    ·have k0 : ¬ (0 : Int) < (q.size : Int) := by omega
     have hg := HG.out
     have e0 : q.data.toList = [] := List.length_eq_zero_iff.1 (by rw [Array.length_toList]; exact hq0)
     rw [e0, show g = (g - 1) + 1 by omega, uqGo_nil] at hg
     have HN := Lib.hid hg.symm
     clear hg e0 hq0
     go_wp2_with fail
     go_quiet (fail)
     go_wp2_with fail
     refine bodyPost_ret (v := .tuple #[.string ⟨#[]⟩, .string s, .iface tE xE]) (by simp [results, Tryz.results46, go_sem]; try rfl) rfl ?_
     exact ⟨by rw [HN.out]; exact ⟨_, _, rfl⟩, Val.bdrewN HS.out.low nq⟩
    have hp : 0 < q.size := by omega
    have k0 : (0 : Int) < (q.size : Int) := by omega
    have eq0 := list_ne q hp
    by_cases b34 : ((q[0]'hp).toNat : Int) = 34
    ·have hg := HG.out
     rw [eq0, show g = (g - 1) + 1 by omega, uqGo_end _ _ _ _ b34] at hg
     have HN := Lib.hid hg.symm
     have hx := ext_end q 1
     have HX := Lib.hid hx
     have k1 : (1 : Int) ≤ (q.size : Int) := by omega
     have b1 : (((q[0]'hp).toNat : Int) != 34) = false := by simp [b34]
     have b2 : (((q[0]'hp).toNat : Int) == 34) = true := by simp [b34]
     have hcv := conv_back HS.out
     clear hg hx eq0
     go_wp2_with fail
     refine bodyPost_ret (v := .tuple #[.string ⟨out.toArray⟩, .string (q.extract 1 q.size), .nilIface]) (by simp [results, Tryz.results46, go_sem]; try rfl) rfl ?_
     exact ⟨by rw [HN.out, HX.out]; rfl, HS.out.low⟩
    have b1 : (((q[0]'hp).toNat : Int) != 34) = true := by simpa using b34
    have hcall := uq_any q (by omega) wr (err_below HE.out HS.out.low) (HT.out.below HS.out.low (Nat.le_refl _))
    cases hu : uqc q.data.toList with
    | none =>
     rw [hu] at hcall
     have HC := Lib.hid hcall
     have hg := HG.out
     rw [eq0, show g = (g - 1) + 1 by omega, uqGo_none _ _ _ _ b34 (by rw [← eq0]; exact hu)] at hg
     have HN := Lib.hid hg.symm
     clear hg hcall eq0
     obtain ⟨b10, hb10⟩ : ∃ b, (((q[0]'hp).toNat : Int) == 10) = b := ⟨_, rfl⟩
     cases b10
     all_goals
      go_wp2_with (first | (go_at_call 74; refine HC.out.mono ?_; rintro e w1 ⟨⟨vv, mm, qq, tt, xx, rfl⟩, hb1⟩; obtain ⟨tF, xF, hcF⟩ := err_below HE.out (st_pass HS.out hb1).low) | fail)
      go_quiet (fail)
      go_wp2_with fail
      refine bodyPost_ret (v := .tuple #[.string ⟨#[]⟩, .string s, .iface tF xF]) (by simp [results, Tryz.results46, go_sem]; try rfl) rfl ?_
      exact ⟨by rw [HN.out]; exact ⟨_, _, rfl⟩, Val.bdrewN (st_pass HS.out hb1).low nq⟩
    | some x =>
     obtain ⟨v, mb, t2⟩ := x
     rw [hu] at hcall
     have HC := Lib.hid hcall
     have hbd := uqc_bds _ _ _ _ hu
     have hlq : q.data.toList.length = q.size := by rw [Array.length_toList]; rfl
     rw [hlq] at hbd
     by_cases h10 : ((q[0]'hp).toNat : Int) = 10
     ·have hg := HG.out
      rw [eq0, show g = (g - 1) + 1 by omega, uqGo_nl _ _ _ _ b34 h10] at hg
      have HN := Lib.hid hg.symm
      have b10 : (((q[0]'hp).toNat : Int) == 10) = true := by simp [h10]
      clear hg hcall eq0 hlq
      go_wp2_with (first | (go_at_call 74; refine HC.out.mono ?_; rintro e w1 ⟨hR, hb1⟩; obtain rfl : e = _ := hR; obtain ⟨tF, xF, hcF⟩ := err_below HE.out (st_pass HS.out hb1).low) | fail)
      go_quiet (fail)
      go_wp2_with fail
      refine bodyPost_ret (v := .tuple #[.string ⟨#[]⟩, .string s, .iface tF xF]) (by simp [results, Tryz.results46, go_sem]; try rfl) rfl ?_
      exact ⟨by rw [HN.out]; exact ⟨_, _, rfl⟩, Val.bdrewN (st_pass HS.out hb1).low nq⟩
     ·have hg := HG.out
      rw [eq0, show g = (g - 1) + 1 by omega, uqGo_some _ _ _ _ _ _ _ b34 h10 (by rw [← eq0]; exact hu)] at hg
      have b10 : (((q[0]'hp).toNat : Int) == 10) = false := by simpa using h10
      have hal := app_len v mb
      have ht2 : (⟨t2.toArray⟩ : ByteArray).size = t2.length := by show t2.toArray.size = _; simp
      by_cases hcase : v < 128 ∨ mb = false
      ·have ha : app v mb = [tb (v % 256)] := by unfold app; rw [if_pos hcase]
       rw [ha] at hg hal
       have HG2 := Lib.hid hg
       have hmb : ((decide (v < 128)) || !mb) = true := by simpa using hcase
       clear hg hcall eq0 hlq ha hcase
       obtain ⟨bL, hbL⟩ : ∃ b, decide (v < 128) = b := ⟨_, rfl⟩
       rw [hbL] at hmb
       cases bL <;> cases mb
       case false.true => cases hmb
       all_goals
        try (have vL : ¬ v < 128 := by simpa using hbL)
        try (have vL : v < 128 := by simpa using hbL)
        clear hmb hbL
        go_wp2_with (first
        | (go_at_call 74; refine HC.out.mono ?_; rintro e w1 ⟨hR, hb1⟩; obtain rfl : e = _ := hR; have HS2 := Lib.hid (st_pass HS.out hb1))
         | (at_builtin; refine wpList_byte rfl _ _ rfl (HS2.out.alloc _) _ 1 (tb (v % 256)) rfl (new_byte _ _ _) (by omega) ?_; intro v' w3 hs3) | fail)
        exact ⟨⟨⟨t2.toArray⟩, out ++ [tb (v % 256)], g - 1, rfl, Lib.hid hs3, by omega, by omega, by simp at hal ⊢; omega, HG2⟩, by simp [szOf]; omega⟩
      ·have ha : app v mb = (encodeRuneZ v).map tb := by unfold app; rw [if_neg hcase]
       rw [ha] at hg hal
       have HG2 := Lib.hid hg
       have vL : ¬ v < 128 := fun h => hcase (Or.inl h)
       obtain rfl : mb = true := by
        cases mb
        ·exact absurd (Or.inr rfl) hcase
        ·rfl
       clear hg hcall eq0 hlq ha hcase
       go_wp2_with (first
        | (go_at_call 74; refine HC.out.mono ?_; rintro e w1 ⟨hR, hb1⟩; obtain rfl : e = _ := hR; have HS2 := Lib.hid (st_pass HS.out hb1))
        | (go_at_call 75; refine (Tryz.utf8_AppendRune_plain w.heap.size _ _ _ v (by omega) (by omega) _ HS2.out.own (by omega) HS2.out.size).mono ?_; rintro e w3 ⟨v', rfl, hown, oo, hg3⟩; have hs3 := st_rune HS2.out oo hown hg3) | fail)
       all_goals first
        | exact ⟨⟨⟨t2.toArray⟩, out ++ (encodeRuneZ v).map tb, g - 1, rfl, Lib.hid hs3, by omega, by omega, by rw [List.length_append]; omega, HG2⟩, by simp [szOf]; omega⟩
        | omega
        | trace_state
end Go.Proofs.YtnccpddjdgndcaaGreatDoor.Unq
end

section
/- THE WALKS OF strconv.unquote AND strconv.Unquote AT ANY TEXT THAT A DOUBLE QUOTE BEGINS. -/
namespace Go.Proofs.YtnccpddjdgndcaaGreatDoor.Unq
open Go.RowKit Go.Lib Go.Proofs.YtnccpddjdgndcaaGreatDoor.Quo
set_option maxRecDepth 20000 in
set_option maxHeartbeats 4000000 in
theorem unq_quick (s t u bd rs : ByteArray) (n : Nat) (hs : s.size ≤ 10000) (h0 : 0 < s.size) (h34 : ((s[0]'h0).toNat : Int) = 34) (ht : s.extract 1 s.size = t) (hn : n + 2 ≤ s.size)
  (hix : Lib.indexByte t.data.toList 34 = (n : Int)) (hu : s.extract 0 (n + 2) = u) (hbd : s.extract 1 (n + 1) = bd) (hrs : s.extract (n + 2) s.size = rs) (hus : u.size = n + 2) (hc1 : (Lib.indexByte u.data.toList 92 != -1) = false) (hc2 : (Lib.indexByte u.data.toList 10 != -1) = false)
  (hv : Lib.validD bd.data.toList = true) (hbs : bd.size ≤ 10000) (hub : u.extract 1 (n + 1) = bd) (w : World) (hT : Tab.Tabs w) :
  Calls Tryz.prog 46 #[.string s, .bool true] w fun e w' => e = .returned (.tuple #[.string bd, .string rs, .nilIface]) ∧ Below w.heap.size w w' := by
 have hva := fun W (hW : Lib.Utf8Tabs 3 4 W) => (Go.Proofs.Any.utf8_ValidString Tryz.lays196 bd W (by omega) hW)
 rw [hv] at hva
 have hd1 := fun W => contains_of u 92 false (by rw [show ((92 : Int).toNat.toUInt8) = 92 from rfl]; exact hc1) W
 have hd2 := fun W => contains_of u 10 false (by rw [show ((10 : Int).toNat.toUInt8) = 10 from rfl]; exact hc2) W
 have hin := fun W => index_any t 34 W
 rw [show ((34 : Int).toNat.toUInt8) = 34 from rfl, hix] at hin
 have HVA := Lib.hid hva; have HD1 := Lib.hid hd1; have HD2 := Lib.hid hd2; have HIN := Lib.hid hin; have HT := Lib.hid hT
 have HUS := Lib.hid hus
 have j0 : (0 : Int) < (s.size : Int) := by omega
 have j1 : (1 : Int) ≤ (s.size : Int) := by omega
 have j2 : ¬ (s.size : Int) < 2 := by omega
 have j3 : (n : Int) + 2 ≤ (s.size : Int) := by omega
 have j4 : (0 : Int) ≤ (n : Int) + 2 := by omega
 have j5 : ¬ (n : Int) < 0 := by omega
 have j6 : (n : Int) + 2 ≤ (u.size : Int) := by omega
 have j7 : (n : Int) + 1 ≤ (u.size : Int) := by omega
 clear hva hd1 hd2 hin hT hv hc1 hc2 hix hus
 go_enter Tryz.func46, Tryz.ntmps46
 go_wp2_with (first
  | (go_at_call 70; refine (HIN.out _).mono ?_; rintro e w' ⟨rfl, rfl⟩)
  | (go_at_call 71; ((with_reducible refine (HD1.out _).mono ?_); rintro e w' ⟨rfl, rfl⟩))
  | (go_at_call 71; ((with_reducible refine (HD2.out _).mono ?_); rintro e w' ⟨rfl, rfl⟩))
  | (go_at_call 72; refine (HVA.out _ HT.out.utf).mono ?_; rintro e w1 ⟨rfl, hb1⟩) | fail)
 go_quiet (fail)
 go_wp2_with fail
 refine bodyPost_ret (v := .tuple #[.string bd, .string rs, .nilIface]) (by simp [results, Tryz.results46, go_sem]; exact ⟨hub, hrs⟩) rfl ?_
 exact ⟨rfl, Val.bdrewN hb1 nq⟩
set_option maxRecDepth 20000 in
set_option maxHeartbeats 4000000 in
theorem unq_open (s t : ByteArray) (hs : s.size ≤ 10000) (h0 : 0 < s.size) (h34 : ((s[0]'h0).toNat : Int) = 34) (ht : s.extract 1 s.size = t) (hix : Lib.indexByte t.data.toList 34 = -1) (w : World) (hE : ErrS w) :
  Calls Tryz.prog 46 #[.string s, .bool true] w fun e w' => UnR s none e ∧ Below w.heap.size w w' := by
 obtain ⟨tE, xE, hc⟩ := hE
 have hin := fun W => index_any t 34 W
 rw [show ((34 : Int).toNat.toUInt8) = 34 from rfl, hix] at hin
 have HIN := Lib.hid hin
 have j0 : (0 : Int) < (s.size : Int) := by omega
 have j1 : (1 : Int) ≤ (s.size : Int) := by omega
 clear hin hix
 by_cases h2 : s.size < 2
 ·have j2 : (s.size : Int) < 2 := by omega
  go_enter Tryz.func46, Tryz.ntmps46
  go_wp2_with fail
  go_quiet (fail)
  go_wp2_with fail
  refine bodyPost_ret (v := .tuple #[.string ⟨#[]⟩, .string s, .iface tE xE]) (by simp [results, Tryz.results46, go_sem]; try rfl) rfl ?_
  exact ⟨⟨_, _, rfl⟩, Val.bdrewN (Below.refl _ _) nq⟩
 ·have j2 : ¬ (s.size : Int) < 2 := by omega
  go_enter Tryz.func46, Tryz.ntmps46
  go_wp2_with (first | (go_at_call 70; refine (HIN.out _).mono ?_; rintro e w' ⟨rfl, rfl⟩) | fail)
  go_quiet (fail)
  go_wp2_with fail
  refine bodyPost_ret (v := .tuple #[.string ⟨#[]⟩, .string s, .iface tE xE]) (by simp [results, Tryz.results46, go_sem]; try rfl) rfl ?_
  exact ⟨⟨_, _, rfl⟩, Val.bdrewN (Below.refl _ _) nq⟩
theorem unquote_any (r : List UInt8) (hs : r.length ≤ 9000) (w : World) (hE : ErrS w) (hT : Tab.Tabs w) :
  Calls Tryz.prog 46 #[.string ⟨(34 :: r).toArray⟩, .bool true] w fun e w' => UnR ⟨(34 :: r).toArray⟩ (uqR r) e ∧ Below w.heap.size w w' := by
 have hz : (⟨(34 :: r).toArray⟩ : ByteArray).size = r.length + 1 := by show (34 :: r).toArray.size = _; simp
 have ht : (⟨(34 :: r).toArray⟩ : ByteArray).extract 1 (⟨(34 :: r).toArray⟩ : ByteArray).size = ⟨r.toArray⟩ := ext_end _ 1
 unfold uqR
 by_cases hm : (34 : UInt8) ∈ r
 ·obtain ⟨a, b, rfl, ha, hi⟩ := ix_cases 34 r hm
  rw [List.length_append, List.length_cons] at hs hz
  rw [hi, if_neg (by omega)]
  have et : (a ++ 34 :: b).take a.length = a := List.take_left' rfl
  have ed : (a ++ 34 :: b).drop (a.length + 1) = b := by rw [← List.drop_drop, List.drop_left' rfl]; rfl
  rw [show (a.length : Int).toNat = a.length by omega, et, ed]
  have hu : (⟨(34 :: (a ++ 34 :: b)).toArray⟩ : ByteArray).extract 0 (a.length + 2) = ⟨(34 :: (a ++ [34])).toArray⟩ := by
   rw [ext_list2]
   congr 2
   rw [List.drop_zero, show 34 :: (a ++ 34 :: b) = (34 :: (a ++ [34])) ++ b by simp]
   exact List.take_left' (by simp)
  have hbd : (⟨(34 :: (a ++ 34 :: b)).toArray⟩ : ByteArray).extract 1 (a.length + 1) = ⟨a.toArray⟩ := by
   rw [ext_list2]
   congr 2
  have hrs : (⟨(34 :: (a ++ 34 :: b)).toArray⟩ : ByteArray).extract (a.length + 2) (⟨(34 :: (a ++ 34 :: b)).toArray⟩ : ByteArray).size = ⟨b.toArray⟩ := by
   rw [ext_end]
   congr 2
  have hus : (⟨(34 :: (a ++ [34])).toArray⟩ : ByteArray).size = a.length + 2 := by show (34 :: (a ++ [34])).toArray.size = _; simp
  have hub : (⟨(34 :: (a ++ [34])).toArray⟩ : ByteArray).extract 1 (a.length + 1) = ⟨a.toArray⟩ := by
   rw [ext_list2]
   congr 2
   exact List.take_left' (by simp)
  have has : (⟨a.toArray⟩ : ByteArray).size = a.length := by show a.toArray.size = _; simp
  have hts : (⟨(a ++ 34 :: b).toArray⟩ : ByteArray).size = a.length + 1 + b.length := by show (a ++ 34 :: b).toArray.size = _; simp; omega
  by_cases hq : 92 ∉ a ∧ 10 ∉ a ∧ Lib.validD a = true
  ·rw [if_pos hq]
   exact unq_quick _ _ _ _ _ a.length (by omega) (by omega) rfl ht (by omega) hi hu hbd hrs hus (by rw [idx_in 92 a (by decide)]; simpa using hq.1) (by rw [idx_in 10 a (by decide)]; simpa using hq.2.1) hq.2.2 (by omega) hub w hT
  ·rw [if_neg hq]
   refine unq_slow _ _ _ a.length _ (decide (92 ∈ a)) (decide (10 ∈ a)) (Lib.validD a) ?_ (by omega) (by omega) rfl ht (by omega) (by omega) hi hu (idx_in 92 a (by decide)) (idx_in 10 a (by decide)) (by rw [hbd]) ?_ w hE hT
   ·by_cases q1 : 92 ∈ a
    ·rw [decide_eq_true q1]; rfl
    ·by_cases q2 : 10 ∈ a
     ·rw [decide_eq_true q2]; simp
     ·have : ¬ Lib.validD a = true := fun h => hq ⟨q1, q2, h⟩
      simp [this]
   ·rw [hts, List.length_append, List.length_cons]
    rw [show a.length + 1 + b.length = a.length + (b.length + 1) by omega]
 ·have hi := ix_none r 34 hm
  rw [hi, if_pos (by omega)]
  exact unq_open _ _ (by omega) (by omega) rfl ht hi w hE
set_option maxHeartbeats 1000000 in
theorem unqP_eq (r : List UInt8) : unqP r = match uqR r with | some (a, []) => some a | _ => none := by
 unfold unqP uqR
 split
 ·rfl
 ·simp only
  split
  ·split
   ·rename_i h; rw [h]
   ·rename_i h
    split
    ·rename_i e; injection e with e; injection e with e1 e2; exact absurd e2 h
    ·rfl
  ·split <;> simp_all
def UQ (o : Option (List UInt8)) (e : Ending) : Prop :=
 match o with
 | none => ∃ (t : TypeId) (x : Value), e = .returned (.tuple #[.string ⟨#[]⟩, .iface t x])
 | some a => e = .returned (.tuple #[.string ⟨a.toArray⟩, .nilIface])
set_option maxRecDepth 20000 in
set_option maxHeartbeats 2000000 in
theorem Unquote_any (r : List UInt8) (hs : r.length ≤ 9000) (w : World) (hE : ErrS w) (hT : Tab.Tabs w) :
  Calls Tryz.prog 29 #[.string ⟨(34 :: r).toArray⟩] w fun e w' => UQ (unqP r) e ∧ Below w.heap.size w w' := by
 have hu := unquote_any r hs w hE hT
 have hc := fun w1 (h : Below w.heap.size w w1) => err_below hE h
 have HC := Lib.hid hc
 rw [unqP_eq]
 have hlen : 0 < (34 :: r).length := by simp
 generalize (34 :: r) = l at *
 generalize uqR r = o at *
 have HU := Lib.hid hu
 clear hu hc hE hT
 match o with
 | none =>
  go_enter Tryz.func29, Tryz.ntmps29
  go_wp2_with (first | (go_at_call 46; refine HU.out.mono ?_; rintro e w1 ⟨⟨tE, xE, rfl⟩, hb1⟩; obtain ⟨tF, xF, hcF⟩ := HC.out w1 hb1) | fail)
  go_quiet (fail)
  go_wp2_with fail
  refine bodyPost_ret (v := .tuple #[.string ⟨#[]⟩, .iface tF xF]) (by simp [results, Tryz.results29, go_sem]; try rfl) rfl ?_
  exact ⟨⟨_, _, rfl⟩, Val.bdrewN hb1 nq⟩
 | some (a, []) =>
  go_enter Tryz.func29, Tryz.ntmps29
  go_wp2_with (first | (go_at_call 46; refine HU.out.mono ?_; rintro e w1 ⟨hR, hb1⟩; obtain rfl : e = _ := hR) | fail)
  refine bodyPost_ret (v := .tuple #[.string ⟨a.toArray⟩, .nilIface]) (by simp [results, Tryz.results29, go_sem]; try rfl) rfl ?_
  exact ⟨rfl, hb1⟩
 | some (a, c :: b) =>
  have hz : (0 : Int) < ((⟨(c :: b).toArray⟩ : ByteArray).size : Int) := by
   have : (⟨(c :: b).toArray⟩ : ByteArray).size = b.length + 1 := by show (c :: b).toArray.size = _; simp
   omega
  generalize (⟨(c :: b).toArray⟩ : ByteArray) = q at *
  go_enter Tryz.func29, Tryz.ntmps29
  go_wp2_with (first | (go_at_call 46; refine HU.out.mono ?_; rintro e w1 ⟨hR, hb1⟩; obtain rfl : e = _ := hR; obtain ⟨tF, xF, hcF⟩ := HC.out w1 hb1) | fail)
  go_quiet (fail)
  go_wp2_with fail
  refine bodyPost_ret (v := .tuple #[.string ⟨#[]⟩, .iface tF xF]) (by simp [results, Tryz.results29, go_sem]; try rfl) rfl ?_
  exact ⟨⟨_, _, rfl⟩, Val.bdrewN hb1 nq⟩
end Go.Proofs.YtnccpddjdgndcaaGreatDoor.Unq
end

section
/- THE WALK OF the fit of chapter 02's laws: it reads "3.0" and prints "a". -/
namespace Go.Proofs.YtnccpddjdgndcaaGreatDoor.Val
open Go.RowKit Flt
attribute [local go_sem] run_store_flt
theorem two_box {w w1 : World} {A B : Array Value} {T U : TypeId} (hb : Below ((w.alloc (.cells A T)).alloc (.cells B U)).heap.size ((w.alloc (.cells A T)).alloc (.cells B U)) w1) :
  (∀ o, w1.cell? ⟨w.heap.size, o, none⟩ = A[o]?) ∧ (∀ o, w1.cell? ⟨w.heap.size + 1, o, none⟩ = B[o]?) ∧ (∀ o, w1.frozen? ⟨w.heap.size, o, none⟩ = false) ∧ (∀ o, w1.frozen? ⟨w.heap.size + 1, o, none⟩ = false) ∧
   w.heap.size + 1 < w1.heap.size ∧ Below w.heap.size w w1 := by
 have hz := size2 hb
 have c : ∀ b o, b < w.heap.size + 2 → w1.cell? ⟨b, o, none⟩ = ((w.alloc (.cells A T)).alloc (.cells B U)).cell? ⟨b, o, none⟩ := fun b o h => hb.cell (p := ⟨b, o, none⟩) (by simp; omega)
 have f : ∀ b o, b < w.heap.size + 2 → w1.frozen? ⟨b, o, none⟩ = ((w.alloc (.cells A T)).alloc (.cells B U)).frozen? ⟨b, o, none⟩ := fun b o h => hb.frozen (p := ⟨b, o, none⟩) (by simp; omega)
 exact ⟨fun o => (c _ o (by omega)).trans (by simp), fun o => (c _ o (by omega)).trans (by simp), fun o => (f _ o (by omega)).trans (by simp), fun o => (f _ o (by omega)).trans (by simp), hz, btrans (balloc2 _ _ _) hb⟩
theorem two_set {w w1 : World} {A B : Array Value} {T U : TypeId} (hb : Below ((w.alloc (.cells A T)).alloc (.cells B U)).heap.size ((w.alloc (.cells A T)).alloc (.cells B U)) w1) (hB : B.size = 5) (v0 v1 v2 v3 v4 : Value) :
  ∃ W2, W2 = (((((w1.setCell ⟨w.heap.size + 1, 0, none⟩ v0).setCell ⟨w.heap.size + 1, 1, none⟩ v1).setCell ⟨w.heap.size + 1, 2, none⟩ v2).setCell ⟨w.heap.size + 1, 3, none⟩ v3).setCell ⟨w.heap.size + 1, 4, none⟩ v4) ∧
   (∀ o, W2.cell? ⟨w.heap.size, o, none⟩ = A[o]?) ∧ (W2.cell? ⟨w.heap.size + 1, 0, none⟩ = some v0 ∧ W2.cell? ⟨w.heap.size + 1, 1, none⟩ = some v1 ∧ W2.cell? ⟨w.heap.size + 1, 2, none⟩ = some v2 ∧ W2.cell? ⟨w.heap.size + 1, 3, none⟩ = some v3 ∧ W2.cell? ⟨w.heap.size + 1, 4, none⟩ = some v4) ∧
   (∀ o, W2.frozen? ⟨w.heap.size, o, none⟩ = false) ∧ w.heap.size + 1 < W2.heap.size ∧ Below w.heap.size w W2 := by
 obtain ⟨c0, c1, f0, f1, hz, hl⟩ := two_box hb
 obtain ⟨e0, e1, e2, e3, e4, h2⟩ := set5_at w1 (w.heap.size + 1) v0 v1 v2 v3 v4 (fun j hj => by rw [c1, Array.getElem?_eq_getElem (by omega)]; rfl)
 exact ⟨_, rfl, fun o => (h2.cell (p := ⟨w.heap.size, o, none⟩) (Nat.lt_succ_self _)).trans (c0 o), ⟨e0, e1, e2, e3, e4⟩, fun o => (h2.frozen (p := ⟨w.heap.size, o, none⟩) (Nat.lt_succ_self _)).trans (f0 o), Nat.lt_of_lt_of_le hz h2.size, hl.trans (h2.mono (by omega))⟩
end Go.Proofs.YtnccpddjdgndcaaGreatDoor.Val
end

section
/- THE WALK OF value.Read AT A TEXT BETWEEN QUOTES that needs no escapes. -/
namespace Go.Proofs.YtnccpddjdgndcaaGreatDoor.Val
open Go.RowKit Flt
attribute [local go_sem] run_store_flt
structure Bare1 (body : List UInt8) : Prop where
 h34 : 34 ∉ body
 h92 : 92 ∉ body
 h10 : 10 ∉ body
 hv : Lib.validD body = true
 hq : Quo.quoteT Lib.goPrintTabs body = 34 :: (body ++ [34])
set_option maxRecDepth 20000 in
set_option maxHeartbeats 4000000 in
theorem read_yes (body : List UInt8) (w : World) (hb : Bare1 body) (hl : body.length ≤ 40) (hT : Tab.Tabs w) :
  Calls Tryz.prog 10 #[.string ⟨(34 :: (body ++ [34])).toArray⟩] w fun e w' => e = .returned (.tuple #[val 2 0 0 body false, .bool true]) ∧ Below w.heap.size w w' := by
 have hu := fun W hW => Unq.unq_any body W hb.h34 hb.h92 hb.h10 hb.hv (by omega) hW
 have hp := fun W hW => vprint_any 2 0 0 body false W (by decide) (by decide) (by decide) (by omega) hW
 have hvt : vT ⟨2, 0, 0, body, false⟩ = 34 :: (body ++ [34]) := hb.hq
 rw [hvt] at hp
 have hr := fun W => vright_any 2 0 0 body false W (by omega)
 have hrr : vRight ⟨2, 0, 0, body, false⟩ = true := by
  show (true && true && decide (body.length ≤ 40)) = _
  simp; omega
 rw [hrr] at hr
 have HU := Lib.hid hu; have HPR := Lib.hid hp; have HR := Lib.hid hr; have HT := Lib.hid hT
 clear hu hp hvt hr hrr hT hb
 go_enter Tryz.func10, Tryz.ntmps10
 go_wp2_with (first
  | (go_at_call 29; refine (HU.out _ (HT.out.below (by repeat (first | assumption | (with_reducible exact Below.refl _ _) | exact balloc _ _ | exact balloc2 _ _ _ | refine btrans ?_ (by assumption) | refine btrans ?_ (balloc _ _))) (Nat.le_refl _))).mono ?_; rintro e w1 ⟨rfl, hb1⟩; have HB1 := Lib.hid hb1; obtain ⟨c0, c1, f0, f1, hz1, hl1⟩ := two_box hb1; clear hb1) | fail)
 obtain ⟨W2, hW2, d0, ⟨e0, e1, e2, e3, e4⟩, g0, hz2, hl2⟩ := two_set HB1.out rfl (.int .i64 2) (.int .i64 0) (.float .f64 0) (.string ⟨body.toArray⟩) (.bool false)
 rw [← hW2]
 clear c0 c1 f0 f1 hz1 hl1 HB1 hW2
 have HB := Lib.hid hl2; clear hl2
 go_wp2_with (first
  | (go_at_call 12; refine (HR.out _).mono ?_; rintro e w3 ⟨rfl, hb3⟩; obtain ⟨hc3, hf3⟩ := bcell hb3; have hs3 := Nat.lt_of_lt_of_le hz2 hb3.size; have hs3' : w.heap.size < W2.heap.size := by omega)
  | (go_at_call 13; refine (HPR.out _ (HT.out.below (btrans HB.out hb3) (Nat.le_refl _))).mono ?_; rintro e w4 ⟨rfl, hb4⟩; obtain ⟨hc4, hf4⟩ := bcell hb4; have hs4' : w.heap.size < w3.heap.size := by omega) | fail)
 obtain ⟨r0, r1, r2, r3, r4, hb5⟩ := set5_at w4 w.heap.size (.int .i64 2) (.int .i64 0) (.float .f64 0) (.string ⟨body.toArray⟩) (.bool false) (fun j hj => by
  rw [hc4 _ _ (by omega), hc3 _ _ (by omega), d0, Array.getElem?_eq_getElem (by exact hj)]; rfl)
 generalize World.setCell _ _ _ = W5 at *
 refine bodyPost_ret (v := .tuple #[val 2 0 0 body false, .bool true]) (by simp [results, Tryz.results10, go_sem, r0, r1, r2, r3, r4]; try rfl) rfl ?_
 exact ⟨rfl, (btrans (btrans HB.out hb3) hb4).trans hb5⟩
end Go.Proofs.YtnccpddjdgndcaaGreatDoor.Val
end

section
/- THE WALK OF cond.Print: what a condition's text is. -/
namespace Go.Proofs.YtnccpddjdgndcaaGreatDoor.Val
open Go.RowKit Flt
def hasT : List UInt8 := [104, 97, 115, 32]
def cT (c : C) : List UInt8 := if c.op == 7 then hasT ++ c.name else c.name ++ [32] ++ wordB c.op ++ [32] ++ vT c.val
theorem itoa_len (n : Int) (h0 : -9223372036854775808 ≤ n) (h1 : n ≤ 9223372036854775807) : (Lib.itoa n).length ≤ 100 := by
 have a := Fmt.nDigits_le20 (u := n.natAbs) (by omega)
 have b := Fmt.nDigits_le20 (u := n.toNat) (by omega)
 unfold Lib.itoa
 split
 ·rw [List.length_cons, Lib.decDigits_length]; omega
 ·rw [Lib.decDigits_length]; omega
theorem quoteT_len (t : List UInt8) : (Quo.quoteT Lib.goPrintTabs t).length ≤ 10 * t.length + 2 := by
 unfold Quo.quoteT
 rw [List.length_map]
 have h := Lib.quoteZ_length_le Lib.goPrintTabs ⟨t.toArray⟩
 have hs : (⟨t.toArray⟩ : ByteArray).size = t.length := by simp [ByteArray.size]
 rw [hs] at h
 exact h
theorem vT_len (v : V) (h0 : -9223372036854775808 ≤ v.int) (h1 : v.int ≤ 9223372036854775807) : (vT v).length ≤ 10 * v.text.length + 2000 := by
 unfold vT
 split
 ·have := itoa_len v.int h0 h1; omega
 ·split
  ·have := flt_len (Ord.canon v.num)
   unfold Fmt.fltT
   split
   ·omega
   ·rw [List.length_append]; simp; omega
  ·split
   ·have := quoteT_len v.text; omega
   ·have a : yesT.length = 3 := rfl
    have b : noT.length = 2 := rfl
    split <;> omega
set_option maxHeartbeats 1000000 in
theorem cprint_in (nm : List UInt8) (op k n : Int) (x : Nat) (t : List UInt8) (y : Bool) (ps : List UInt8) (w : World) (hw : Words w) (h7 : (op == 7) = false) (hnm : nm.length ≤ 1000000) (hps : ps.length ≤ 1000000)
  (hp : ∀ w1, Below w.heap.size w w1 → Calls Tryz.prog 13 #[val k n x t y] w1 fun e w' => e = .returned (.string ⟨ps.toArray⟩) ∧ Below w1.heap.size w1 w') :
  Calls Tryz.prog 25 #[cond nm op k n x t y] w fun e w' => e = .returned (.string ⟨(nm ++ [32] ++ wordB op ++ [32] ++ ps).toArray⟩) ∧ Below w.heap.size w w' := by
 have hwl := wordB_len op
 have HW := Lib.hid hw; have HP := Lib.hid hp; clear hw hp
 generalize hwd : wordB op = wd at *
 have HWD := Lib.hid hwd; clear hwd
 obtain ⟨y1, hy1⟩ : ∃ l, l = nm ++ [32] := ⟨_, rfl⟩
 obtain ⟨y2, hy2⟩ : ∃ l, l = y1 ++ wd := ⟨_, rfl⟩
 obtain ⟨y3, hy3⟩ : ∃ l, l = y2 ++ [32] := ⟨_, rfl⟩
 obtain ⟨y4, hy4⟩ : ∃ l, l = y3 ++ ps := ⟨_, rfl⟩
 have l1 : y1.length = nm.length + 1 := by rw [hy1]; simp
 have l2 : y2.length = y1.length + wd.length := by rw [hy2]; simp
 have l3 : y3.length = y2.length + 1 := by rw [hy3]; simp
 have r1 : ∀ w, (Op.stringOp .add ⟨nm.toArray⟩ ⟨#[32]⟩).run Tryz.prog w = .ok (.string ⟨y1.toArray⟩) w := fun w => by rw [hy1]; exact run_string_add_lists w nm [32] (by omega) (by simp)
 have r2 : ∀ w, (Op.stringOp .add ⟨y1.toArray⟩ ⟨wd.toArray⟩).run Tryz.prog w = .ok (.string ⟨y2.toArray⟩) w := fun w => by rw [hy2]; exact run_string_add_lists w y1 wd (by omega) (by omega)
 have r3 : ∀ w, (Op.stringOp .add ⟨y2.toArray⟩ ⟨#[32]⟩).run Tryz.prog w = .ok (.string ⟨y3.toArray⟩) w := fun w => by rw [hy3]; exact run_string_add_lists w y2 [32] (by omega) (by simp)
 have r4 : ∀ w, (Op.stringOp .add ⟨y3.toArray⟩ ⟨ps.toArray⟩).run Tryz.prog w = .ok (.string ⟨y4.toArray⟩) w := fun w => by rw [hy4]; exact run_string_add_lists w y3 ps (by omega) (by omega)
 have HY : nm ++ [32] ++ wd ++ [32] ++ ps = y4 := by rw [hy4, hy3, hy2, hy1]
 have HY' := Lib.hid HY
 clear hy1 hy2 hy3 hy4 l1 l2 l3 HY hwl hnm hps
 go_enter Tryz.func25, Tryz.ntmps25
 go_wp2_with fail
 go_region_held3 (fun w' => w'.cell? ⟨w.heap.size, 0, none⟩ = some (.string ⟨nm.toArray⟩) ∧ w'.cell? ⟨w.heap.size, 1, none⟩ = some (.int .i64 op) ∧ w'.cell? ⟨w.heap.size, 2, none⟩ = some (.int .i64 k) ∧ w'.cell? ⟨w.heap.size, 3, none⟩ = some (.int .i64 n) ∧ w'.cell? ⟨w.heap.size, 4, none⟩ = some (.float .f64 x) ∧ w'.cell? ⟨w.heap.size, 5, none⟩ = some (.string ⟨t.toArray⟩) ∧ w'.cell? ⟨w.heap.size, 6, none⟩ = some (.bool y) ∧ Words w' ∧ Below w.heap.size w w' ∧ w.heap.size < w'.heap.size)
  (first | exact held_start HW.out | assumption | exact held_below (by assumption) (by assumption))
  (first | (go_at_call 19; refine (word_any _ _ (held_words (by assumption))).mono ?_; rintro e w' ⟨rfl, rfl⟩; rw [HWD.out]) | (go_at_call 13; refine (HP.out _ (held_own (by assumption))).mono ?_; rintro e w1 ⟨rfl, hb⟩))
 go_goals
 all_goals
  go_wp2
  go_ret
  exact ⟨ret_str HY'.out.symm, held_own (by assumption)⟩
set_option maxHeartbeats 1000000 in
theorem cprint_has (nm : List UInt8) (k n : Int) (x : Nat) (t : List UInt8) (y : Bool) (w : World) (hnm : nm.length ≤ 1000000) :
  Calls Tryz.prog 25 #[cond nm 7 k n x t y] w fun e w' => e = .returned (.string ⟨(hasT ++ nm).toArray⟩) ∧ Below w.heap.size w w' := by
 obtain ⟨y1, hy1⟩ : ∃ l, l = hasT ++ nm := ⟨_, rfl⟩
 have r1 : ∀ w, (Op.stringOp .add ⟨#[104, 97, 115, 32]⟩ ⟨nm.toArray⟩).run Tryz.prog w = .ok (.string ⟨y1.toArray⟩) w := fun w => by rw [hy1]; exact run_string_add_lists w [104, 97, 115, 32] nm (by decide) (by omega)
 rw [← hy1]
 clear hnm hy1
 go_enter Tryz.func25, Tryz.ntmps25
 go_wp2_with fail
 go_ret
 exact ⟨rfl, balloc _ _⟩
theorem cprint_any (nm : List UInt8) (op k n : Int) (x : Nat) (t : List UInt8) (y : Bool) (w : World) (hw : Words w) (hT : Tab.Tabs w) (hnm : nm.length ≤ 1000000) (ht : t.length ≤ 90000) (hx : x < 18446744073709551616) (h0 : -9223372036854775808 ≤ n) (h1 : n ≤ 9223372036854775807) :
  Calls Tryz.prog 25 #[cond nm op k n x t y] w fun e w' => e = .returned (.string ⟨(cT ⟨nm, op, k, n, x, t, y⟩).toArray⟩) ∧ Below w.heap.size w w' := by
 by_cases h7 : op = 7
 ·subst h7
  exact cprint_has nm k n x t y w hnm
 ·have e7 : (op == 7) = false := by simpa using h7
  have hl := vT_len ⟨k, n, x, t, y⟩ h0 h1
  have e : cT ⟨nm, op, k, n, x, t, y⟩ = nm ++ [32] ++ wordB op ++ [32] ++ vT ⟨k, n, x, t, y⟩ := by unfold cT; rw [e7]; rfl
  rw [e]
  exact cprint_in nm op k n x t y _ w hw e7 hnm (by simp only at hl; omega) (fun w1 hb => vprint_any k n x t y w1 hx h0 h1 (by omega) (hT.below hb (Nat.le_refl _)))
end Go.Proofs.YtnccpddjdgndcaaGreatDoor.Val
end

section
/- value.Read AT A TEXT AS Quote WRITES IT. -/
namespace Go.Proofs.YtnccpddjdgndcaaGreatDoor.Val
open Go.RowKit Flt
attribute [local go_sem] run_store_flt
theorem quote_tail (t : List UInt8) : ∃ r, Quo.quoteT Lib.goPrintTabs t = 34 :: r ∧ Unq.unqP r = some t ∧ r.length ≤ 10 * t.length + 1 := by
 have h := quoteT_len t
 rw [Unq.quoteT_eq, List.length_cons] at h
 exact ⟨_, Unq.quoteT_eq _ _, Unq.unq_quote _ _, by omega⟩
set_option maxRecDepth 20000 in
set_option maxHeartbeats 4000000 in
theorem read_text (body : List UInt8) (w : World) (hl : body.length ≤ 40) (hT : Tab.Tabs w) (hE : Unq.ErrS w) :
  Calls Tryz.prog 10 #[.string ⟨(Quo.quoteT Lib.goPrintTabs body).toArray⟩] w fun e w' => e = .returned (.tuple #[val 2 0 0 body false, .bool true]) ∧ Below w.heap.size w w' := by
 obtain ⟨r, hq, hun, hrl⟩ := quote_tail body
 have hu := fun W hEW hW => Unq.Unquote_any r (by omega) W hEW hW
 rw [hun] at hu
 have hp := fun W hW => vprint_any 2 0 0 body false W (by decide) (by decide) (by decide) (by omega) hW
 have hvt : vT ⟨2, 0, 0, body, false⟩ = 34 :: r := hq
 rw [hvt] at hp
 rw [hq]
 have hr := fun W => vright_any 2 0 0 body false W (by omega)
 have hrr : vRight ⟨2, 0, 0, body, false⟩ = true := by
  show (true && true && decide (body.length ≤ 40)) = _
  simp; omega
 rw [hrr] at hr
 have HU := Lib.hid hu; have HPR := Lib.hid hp; have HR := Lib.hid hr; have HT := Lib.hid hT; have HE := Lib.hid hE
 clear hu hp hvt hr hrr hT hE hq hun
 go_enter Tryz.func10, Tryz.ntmps10
 go_wp2_with (first
  | (go_at_call 29; refine (HU.out _ (Unq.err_below HE.out (by repeat (first | assumption | (with_reducible exact Below.refl _ _) | exact balloc _ _ | exact balloc2 _ _ _ | refine btrans ?_ (by assumption) | refine btrans ?_ (balloc _ _)))) (HT.out.below (by repeat (first | assumption | (with_reducible exact Below.refl _ _) | exact balloc _ _ | exact balloc2 _ _ _ | refine btrans ?_ (by assumption) | refine btrans ?_ (balloc _ _))) (Nat.le_refl _))).mono ?_; rintro e w1 ⟨hR, hb1⟩; obtain rfl : e = _ := hR; have HB1 := Lib.hid hb1; obtain ⟨c0, c1, f0, f1, hz1, hl1⟩ := two_box hb1; clear hb1) | fail)
 obtain ⟨W2, hW2, d0, ⟨e0, e1, e2, e3, e4⟩, g0, hz2, hl2⟩ := two_set HB1.out rfl (.int .i64 2) (.int .i64 0) (.float .f64 0) (.string ⟨body.toArray⟩) (.bool false)
 rw [← hW2]
 clear c0 c1 f0 f1 hz1 hl1 HB1 hW2
 have HB := Lib.hid hl2; clear hl2
 go_wp2_with (first
  | (go_at_call 12; refine (HR.out _).mono ?_; rintro e w3 ⟨rfl, hb3⟩; obtain ⟨hc3, hf3⟩ := bcell hb3; have hs3 := Nat.lt_of_lt_of_le hz2 hb3.size; have hs3' : w.heap.size < W2.heap.size := by omega)
  | (go_at_call 13; refine (HPR.out _ (HT.out.below (btrans HB.out hb3) (Nat.le_refl _))).mono ?_; rintro e w4 ⟨rfl, hb4⟩; obtain ⟨hc4, hf4⟩ := bcell hb4; have hs4' : w.heap.size < w3.heap.size := by omega) | fail)
 obtain ⟨r0, r1, r2, r3, r4, hb5⟩ := set5_at w4 w.heap.size (.int .i64 2) (.int .i64 0) (.float .f64 0) (.string ⟨body.toArray⟩) (.bool false) (fun j hj => by
  rw [hc4 _ _ (by omega), hc3 _ _ (by omega), d0, Array.getElem?_eq_getElem (by exact hj)]; rfl)
 generalize World.setCell _ _ _ = W5 at *
 refine bodyPost_ret (v := .tuple #[val 2 0 0 body false, .bool true]) (by simp [results, Tryz.results10, go_sem, r0, r1, r2, r3, r4]; try rfl) rfl ?_
 exact ⟨rfl, (btrans (btrans HB.out hb3) hb4).trans hb5⟩
set_option maxRecDepth 20000 in
set_option maxHeartbeats 4000000 in
theorem read_text_no (body : List UInt8) (w : World) (hl : body.length ≤ 800) (h40 : 40 < body.length) (hT : Tab.Tabs w) (hE : Unq.ErrS w) :
  Calls Tryz.prog 10 #[.string ⟨(Quo.quoteT Lib.goPrintTabs body).toArray⟩] w fun e w' => e = .returned (.tuple #[val 0 0 0 [] false, .bool false]) ∧ Below w.heap.size w w' := by
 obtain ⟨r, hq, hun, hrl⟩ := quote_tail body
 have hu := fun W hEW hW => Unq.Unquote_any r (by omega) W hEW hW
 rw [hun] at hu
 have hp := fun W hW => vprint_any 2 0 0 body false W (by decide) (by decide) (by decide) (by omega) hW
 have hvt : vT ⟨2, 0, 0, body, false⟩ = 34 :: r := hq
 rw [hvt] at hp
 rw [hq]
 have hr := fun W => vright_any 2 0 0 body false W (by omega)
 have hrr : vRight ⟨2, 0, 0, body, false⟩ = false := by
  show (true && true && decide (body.length ≤ 40)) = _
  simp; omega
 rw [hrr] at hr
 have HU := Lib.hid hu; have HPR := Lib.hid hp; have HR := Lib.hid hr; have HT := Lib.hid hT; have HE := Lib.hid hE
 clear hu hp hvt hr hrr hT hE hq hun
 go_enter Tryz.func10, Tryz.ntmps10
 go_wp2_with (first
  | (go_at_call 29; refine (HU.out _ (Unq.err_below HE.out (by repeat (first | assumption | (with_reducible exact Below.refl _ _) | exact balloc _ _ | exact balloc2 _ _ _ | refine btrans ?_ (by assumption) | refine btrans ?_ (balloc _ _)))) (HT.out.below (by repeat (first | assumption | (with_reducible exact Below.refl _ _) | exact balloc _ _ | exact balloc2 _ _ _ | refine btrans ?_ (by assumption) | refine btrans ?_ (balloc _ _))) (Nat.le_refl _))).mono ?_; rintro e w1 ⟨hR, hb1⟩; obtain rfl : e = _ := hR; have HB1 := Lib.hid hb1; obtain ⟨c0, c1, f0, f1, hz1, hl1⟩ := two_box hb1; clear hb1) | fail)
 obtain ⟨W2, hW2, d0, ⟨e0, e1, e2, e3, e4⟩, g0, hz2, hl2⟩ := two_set HB1.out rfl (.int .i64 2) (.int .i64 0) (.float .f64 0) (.string ⟨body.toArray⟩) (.bool false)
 rw [← hW2]
 clear c0 c1 f0 f1 hz1 hl1 HB1 hW2
 have HB := Lib.hid hl2; clear hl2
 go_wp2_with (first
  | (go_at_call 12; refine (HR.out _).mono ?_; rintro e w3 ⟨rfl, hb3⟩; obtain ⟨hc3, hf3⟩ := bcell hb3; have hs3 := Nat.lt_of_lt_of_le hz2 hb3.size; have hs3' : w.heap.size < W2.heap.size := by omega)
  | (go_at_call 13; refine (HPR.out _ (HT.out.below (btrans HB.out hb3) (Nat.le_refl _))).mono ?_; rintro e w4 ⟨rfl, hb4⟩; obtain ⟨hc4, hf4⟩ := bcell hb4; have hs4' : w.heap.size < w3.heap.size := by omega) | fail)
 obtain ⟨r0, r1, r2, r3, r4, hb5⟩ := set5_at w3 w.heap.size (.int .i64 0) (.int .i64 0) (.float .f64 0) (.string ⟨#[]⟩) (.bool false) (fun j hj => by
  rw [hc3 _ _ (by omega), d0, Array.getElem?_eq_getElem (by exact hj)]; rfl)
 generalize World.setCell _ _ _ = W5 at *
 refine bodyPost_ret (v := .tuple #[val 0 0 0 [] false, .bool false]) (by simp [results, Tryz.results10, go_sem, r0, r1, r2, r3, r4]; try rfl) rfl ?_
 exact ⟨rfl, (btrans HB.out hb3).trans hb5⟩
end Go.Proofs.YtnccpddjdgndcaaGreatDoor.Val
end

section
/- THE WALKS OF strconv.atof64 AND ParseFloat AT A NUMBER's TEXT (second part). -/
namespace Go.Proofs.YtnccpddjdgndcaaGreatDoor.Pf
open Go.RowKit Go.Proofs.YtnccpddjdgndcaaGreatDoor.Fmt Go.Proofs.YtnccpddjdgndcaaGreatDoor.Nt Ieee
theorem rf_num (s : ByteArray) (ng : Bool) (j d : Nat) (p : Int) (hs : s.size ≤ 100000) (h0 : s.size ≠ 0) (hj : sgP s.data.toList = (ng, j)) (hx : hexP s.data.toList j = false) (ho : rfDec (s.data.toList.drop j) = some ⟨(d : Int), p, false, false, []⟩) (w : World) :
  Calls Tryz.prog 148 #[.string s] w fun e w' => e = .returned (.tuple #[.int .u64 d, .int .i64 p, .bool ng, .bool false, .bool false, .int .i64 s.size, .bool true]) ∧ Below w.heap.size w w' := by
 refine (rf_dec s w ng j hs h0 hj hx).mono ?_
 rintro e w' ⟨h, hb⟩
 have h1 : rfEnd false (rfGo false (s.data.toList.drop j) rs0) = some ⟨(d : Int), p, false, false, []⟩ := ho
 rw [h1] at h
 obtain ⟨m, x, tr, n, ok, rfl, n0, n1, m0, m1, x0, x1, hno, hyes⟩ := h
 obtain ⟨q1, q2, q3, q4, q5⟩ := hyes _ rfl
 refine ⟨?_, hb⟩
 have q6 := q1 rfl
 simp only [List.length_nil] at q2 q3 q4 q5
 have q7 : n = (s.size : Int) := by omega
 rw [q2, q3, q4, q6, q7]
structure NumT (s : ByteArray) (v : Nat) : Prop where
 hs : s.size ≤ 100000
 h0 : s.size ≠ 0
 spec : ∀ w, Calls Tryz.prog 147 #[.string s] w fun e w' => e = .returned (.tuple #[.float .f64 0, .int .i64 0, .bool false]) ∧ w = w'
 num : ∃ (ng : Bool) (j d : Nat) (p : Int), sgP s.data.toList = (ng, j) ∧ hexP s.data.toList j = false ∧ rfDec (s.data.toList.drop j) = some ⟨(d : Int), p, false, false, []⟩ ∧
  ((d = 0 ∧ v = sgN ng) ∨ (1 ≤ d ∧ d < 144115188075855872 ∧ -340 ≤ p ∧ p ≤ 308 ∧ ∃ b, 1 ≤ b ∧ b < 9218868437227405312 ∧ InR b (d * pw2 0 * pw10 p) ∧ v = double.word ng b))
set_option maxRecDepth 20000 in
set_option maxHeartbeats 2000000 in
theorem atof_num (s : ByteArray) (v : Nat) (h : NumT s v) (w : World) (hW : PfW w) (hP : Pow w) :
  Calls Tryz.prog 111 #[.string s] w fun e w' => e = .returned (.tuple #[.float .f64 v, .int .i64 s.size, .nilIface]) ∧ Below w.heap.size w w' := by
 obtain ⟨hs, h0, hsp, ng, j, d, p, hj, hx, ho, hv⟩ := h
 have hrf := fun W => rf_num s ng j d p hs h0 hj hx ho W
 have hb2 := fun W => bool2_any ng W
 have HSP := Lib.hid hsp; have HRF := Lib.hid hrf; have HB2 := Lib.hid hb2
 clear hsp hrf hj hx ho hb2
 have o0 : bits .or .u64 0 0 = 0 := by decide
 have o1 : bits .or .u64 9223372036854775808 0 = 9223372036854775808 := by decide
 have O0 := Lib.hid o0; have O1 := Lib.hid o1
 have HP := Lib.hid hP; have HWW := Lib.hid hW
 clear o0 o1 hP hW
 rcases hv with ⟨rfl, rfl⟩ | ⟨d1, d2, p1, p2, b, b1, b2, hr, rfl⟩
 ·cases ng
  all_goals
   go_enter Tryz.func111, Tryz.ntmps111
   go_wp2_with (first | (go_at_call 147; refine (HSP.out _).mono ?_; rintro e w1 ⟨rfl, rfl⟩) | (go_at_call 148; refine (HRF.out _).mono ?_; rintro e w1 ⟨rfl, hb1⟩; have hopt := Tab.cell_below hb1 (Nat.le_refl _) HWW.out.opt) | (go_at_call 156; refine (bool2_any _ _).mono ?_; rintro e w2 ⟨rfl, rfl⟩) | (simp only [sfrom_call, O0.out, O1.out]) | fail)
   try simp only [O0.out, O1.out]
   go_returns
   exact ⟨rfl, hb1⟩
 ·have hv2 := pfV_of b d p ng b1 b2 d1 d2 (by omega) (by omega) hr
  have hor : bits .or .u64 ((sgN ng : Nat) : Int) 0 = ((sgN ng : Nat) : Int) := by
   have := or_u (sgN ng) 0 (by cases ng <;> decide) (by decide)
   rw [Nat.or_zero] at this
   exact this
  have hpf := fun W hW => pf64_any d p (sgN ng : Nat) d1 (by omega) (by omega) (by omega) hor W hW
  rw [hv2] at hpf
  simp only [Int.toNat_natCast, errV, Bool.false_eq_true, if_false] at hpf
  have hex := fun W hW => exact_any d p ng d1 (by omega) (by omega) (by omega) W hW
  have HPF := Lib.hid hpf; have HEX := Lib.hid hex; have HR := Lib.hid hr
  have dB : ((d : Int) == 0) = false := beq_eq_false_iff_ne.2 (by omega)
  clear hv2 hor hpf hex hr
  have hp1 : ¬ (310 : Int) < p := by omega
  have hp2 : ¬ p < -345 := by omega
  cases ng
  all_goals
   have hpf2 := HPF.out
   try rw [show ((sgN false : Nat) : Int) = 0 from rfl] at hpf2
   try rw [show ((sgN true : Nat) : Int) = 9223372036854775808 from rfl] at hpf2
   have HPF2 := Lib.hid hpf2
   clear hpf2 HPF
   go_enter Tryz.func111, Tryz.ntmps111
   go_upto_region 19 with (first | (go_at_call 147; refine (HSP.out _).mono ?_; rintro e w1 ⟨rfl, rfl⟩) | (go_at_call 148; refine (HRF.out _).mono ?_; rintro e w1 ⟨rfl, hb1⟩; have hopt := Tab.cell_below hb1 (Nat.le_refl _) HWW.out.opt) | (go_at_call 156; refine (bool2_any _ _).mono ?_; rintro e w2 ⟨rfl, rfl⟩) | fail)
   have hW1 := HWW.out.below hb1 (Nat.le_refl _)
   have hP1 : Pow w1 := fun i hi => ⟨Tab.cell_below hb1 (Nat.le_refl _) (HP.out i hi).1, Tab.cell_below hb1 (Nat.le_refl _) (HP.out i hi).2⟩
   have HW1 := Lib.hid hW1; have HP1 := Lib.hid hP1
   clear hW1 hP1
   go_upto_region 20 with (first | (go_at_call 158; refine (HEX.out _ HW1.out).mono ?_; rintro e w2 ⟨⟨x, ok, rfl, _, hx⟩, rfl⟩) | fail)
   cases ok
   ·clear hx
    go_wp2_with (first | (go_at_call 159; refine (HPF2.out _ HP1.out).mono ?_; rintro e w3 ⟨rfl, hb3⟩) | fail)
    go_returns
    exact ⟨rfl, Val.btrans hb1 hb3⟩
   ·have hxx := hx rfl b b1 b2 HR.out
    subst hxx
    clear hx
    go_wp2_with fail
    go_returns
    exact ⟨rfl, hb1⟩
theorem prefix_num (s : ByteArray) (v : Nat) (h : NumT s v) (w : World) (hW : PfW w) (hP : Pow w) :
  Calls Tryz.prog 79 #[.string s, .int .i64 64] w fun e w' => e = .returned (.tuple #[.float .f64 v, .int .i64 s.size, .nilIface]) ∧ Below w.heap.size w w' := by
 have ha := atof_num s v h w hW hP
 have HA := Lib.hid ha; clear ha h
 go_enter Tryz.func79, Tryz.ntmps79
 go_wp2_with (go_at_call 111; refine HA.out.mono ?_; rintro e w' ⟨rfl, hb⟩)
 go_returns
 exact ⟨rfl, hb⟩
theorem iparse_num (s : ByteArray) (v : Nat) (h : NumT s v) (w : World) (hW : PfW w) (hP : Pow w) :
  Calls Tryz.prog 48 #[.string s, .int .i64 64] w fun e w' => e = .returned (.tuple #[.float .f64 v, .nilIface]) ∧ Below w.heap.size w w' := by
 have ha := prefix_num s v h w hW hP
 have HA := Lib.hid ha; clear ha h
 go_enter Tryz.func48, Tryz.ntmps48
 go_wp2_with (go_at_call 79; refine HA.out.mono ?_; rintro e w' ⟨rfl, hb⟩)
 go_returns
 exact ⟨rfl, hb⟩
theorem parse_num (s : ByteArray) (v : Nat) (h : NumT s v) (w : World) (hW : PfW w) (hP : Pow w) :
  Calls Tryz.prog 31 #[.string s, .int .i64 64] w fun e w' => e = .returned (.tuple #[.float .f64 v, .nilIface]) ∧ Below w.heap.size w w' := by
 have ha := iparse_num s v h w hW hP
 have HA := Lib.hid ha; clear ha h
 go_enter Tryz.func31, Tryz.ntmps31
 go_wp2_with (go_at_call 48; refine HA.out.mono ?_; rintro e w' ⟨rfl, hb⟩)
 go_returns
 exact ⟨rfl, hb⟩
end Go.Proofs.YtnccpddjdgndcaaGreatDoor.Pf
end

section
/- ParseFloat GIVES BACK THE NUMBER WHOSE TEXT IS READ. -/
namespace Go.Proofs.YtnccpddjdgndcaaGreatDoor.Pf
open Go.RowKit Go.Proofs.YtnccpddjdgndcaaGreatDoor.Fmt Go.Proofs.YtnccpddjdgndcaaGreatDoor.Nt Ieee
theorem frm_head (X i f : List UInt8) (e : Int) (h : Frm X i f e) : ∃ c r, X = c :: r ∧ IsD c := by
 obtain ⟨hi, hf, hne, s, hs, hX⟩ := h
 obtain ⟨c, t, rfl⟩ := List.exists_cons_of_ne_nil hne
 rcases hX with rfl | ⟨_, rfl⟩
 ·exact ⟨c, _, rfl, hi c (List.mem_cons_self ..)⟩
 ·exact ⟨c, _, rfl, hi c (List.mem_cons_self ..)⟩
theorem frm_chr (X i f : List UInt8) (e : Int) (h : Frm X i f e) : ∀ c ∈ X, IsN c := by
 obtain ⟨hi, hf, hne, s, hs, hX⟩ := h
 have hsn : ∀ c ∈ s, IsN c := by
  intro c hc
  rcases hs with ⟨rfl, _⟩ | ⟨g, ds, rfl, _, hd, _, hg⟩
  ·cases hc
  ·rcases List.mem_cons.1 hc with rfl | hc
   ·exact .inr (.inr (.inr (.inr rfl)))
   rcases List.mem_cons.1 hc with rfl | hc
   ·rcases hg with ⟨rfl, _⟩ | ⟨rfl, _⟩
    ·exact .inr (.inl rfl)
    ·exact .inr (.inr (.inl rfl))
   ·exact .inl (hd c hc)
 intro c hc
 rcases hX with rfl | ⟨_, rfl⟩
 ·rcases List.mem_append.1 hc with hc | hc
  ·exact .inl (hi c hc)
  rcases List.mem_cons.1 hc with rfl | hc
  ·exact .inr (.inr (.inr (.inl rfl)))
  rcases List.mem_append.1 hc with hc | hc
  ·exact .inl (hf c hc)
  ·exact hsn c hc
 ·rcases List.mem_append.1 hc with hc | hc
  ·exact .inl (hi c hc)
  ·exact hsn c hc
theorem low_n : ∀ c : Nat, c < 256 → (48 ≤ c ∧ c ≤ 57) ∨ c = 43 ∨ c = 45 ∨ c = 46 ∨ c = 101 → (low (c : Int) == 120) = false := by decide +kernel
theorem low_isN (c : UInt8) (h : IsN c) : (low (c.toNat : Int) == 120) = false := by
 refine low_n c.toNat c.toNat_lt ?_
 rcases h with h | rfl | rfl | rfl | rfl
 ·exact .inl h
 ·exact .inr (.inl rfl)
 ·exact .inr (.inr (.inl rfl))
 ·exact .inr (.inr (.inr (.inl rfl)))
 ·exact .inr (.inr (.inr (.inr rfl)))
theorem hexP_no (l X : List UInt8) (j : Nat) (hl : l.drop j = X) (hX : ∀ c ∈ X, IsN c) : hexP l j = false := by
 unfold hexP
 by_cases h : j + 2 < l.length
 ·have : IsN (l.getD (j + 1) 0) := by
   refine hX _ ?_
   rw [← hl, List.getD_eq_getElem?_getD, List.getElem?_eq_getElem (by omega), Option.getD_some]
   refine List.mem_drop_iff_getElem.2 ⟨1, by omega, ?_⟩
   congr 1
  rw [low_isN _ this, Bool.and_false, Bool.and_false]
 ·rw [decide_eq_false h, Bool.false_and]
theorem size_list (l : List UInt8) : (⟨l.toArray⟩ : ByteArray).size = l.length := by simp [ByteArray.size]
theorem numT_make (ng : Bool) (X i f : List UInt8) (e : Int) (v d : Nat) (p : Int) (h : Frm X i f e) (hl : (sgn ng ++ X).length ≤ 100000) (hr : rfDec X = some ⟨(d : Int), p, false, false, []⟩)
  (hv : (d = 0 ∧ v = sgN ng) ∨ (1 ≤ d ∧ d < 144115188075855872 ∧ -340 ≤ p ∧ p ≤ 308 ∧ ∃ b, 1 ≤ b ∧ b < 9218868437227405312 ∧ InR b (d * pw2 0 * pw10 p) ∧ v = double.word ng b)) : NumT ⟨(sgn ng ++ X).toArray⟩ v := by
 obtain ⟨c, r, rfl, hc⟩ := frm_head X i f e h
 have hn := frm_chr _ i f e h
 have hcd : 48 ≤ (c.toNat : Int) ∧ (c.toNat : Int) ≤ 57 := by unfold IsD at hc; omega
 have hz := size_list (sgn ng ++ c :: r)
 cases ng
 ·have e0 : sgn false ++ c :: r = c :: r := rfl
  rw [e0] at hz hl ⊢
  have hp : 0 < (⟨(c :: r).toArray⟩ : ByteArray).size := by rw [hz]; simp
  refine ⟨by rw [hz]; exact hl, by omega, fun w => special_pos _ hp (by exact hcd) w, false, 0, d, p, ?_, ?_, ?_, hv⟩
  ·show sgP (c :: r) = _
   unfold sgP
   simp only
   rw [if_neg (by omega), if_neg (by omega)]
  ·exact hexP_no _ (c :: r) 0 rfl hn
  ·exact hr
 ·have e0 : sgn true ++ c :: r = 45 :: c :: r := rfl
  rw [e0] at hz hl ⊢
  have hp : 0 < (⟨(45 :: c :: r).toArray⟩ : ByteArray).size := by rw [hz]; simp
  have hz2 := size_list (c :: r)
  have hx : (⟨(45 :: c :: r).toArray⟩ : ByteArray).extract 1 (⟨(45 :: c :: r).toArray⟩ : ByteArray).size = ⟨(c :: r).toArray⟩ := by
   apply ByteArray.ext
   rw [ByteArray.data_extract, hz]
   simp
  refine ⟨by rw [hz]; exact hl, by omega, fun w => special_neg _ ⟨(c :: r).toArray⟩ hp (by rfl) hx (by rw [hz2]; simp) (by exact hcd) w, true, 1, d, p, ?_, ?_, ?_, hv⟩
  ·rfl
  ·exact hexP_no _ (c :: r) 1 rfl hn
  ·exact hr
theorem flt_len2 (v : Nat) : (fltT v).length ≤ 2000 := by
 have h := Val.flt_len v
 unfold fltT
 split
 ·omega
 ·rw [List.length_append]; simp; omega
theorem numT_of (v : Nat) (hv : v < 18446744073709551616) (hb : bexp v ≤ 2046) : NumT ⟨(fltT v).toArray⟩ v := by
 have hlen := flt_len2 v
 have hsplit : v = sgN (bneg v) + v % 9223372036854775808 := by
  unfold bneg sgN
  by_cases h : v / 9223372036854775808 = 0
  ·simp [h]; omega
  ·have : v / 9223372036854775808 = 1 := by omega
   simp [this]; omega
 by_cases hz : bexp v = 0 ∧ bman v = 0
 ·have hft : ftoaT v = sgn (bneg v) ++ [48] := by unfold ftoaT; rw [if_neg (by omega), if_pos hz]
  have hm : marked (ftoaT v) = false := by rw [hft]; cases bneg v <;> decide
  have ht : fltT v = sgn (bneg v) ++ [48, 46, 48] := by unfold fltT; rw [hm, if_neg (by decide), hft, List.append_assoc]; rfl
  have hfr : Frm [48, 46, 48] [48] [48] 0 := ⟨zeros_isD 1, zeros_isD 1, by simp, [], Or.inl ⟨rfl, rfl⟩, Or.inl rfl⟩
  have hr := rf_form _ _ _ _ hfr (by decide)
  have hv0 : v % 9223372036854775808 = 0 := by unfold bexp bman at hz; omega
  rw [ht] at hlen ⊢
  refine numT_make (bneg v) _ _ _ _ v 0 0 hfr (by omega) (by rw [hr]; rfl) (Or.inl ⟨rfl, by omega⟩)
 ·obtain ⟨X, i, f, e, ht, hfr, m1, m2, p1, p2, hr⟩ := flt_form v hb (by omega)
  have hrr := rf_form X i f e hfr (by omega)
  rw [if_neg (by omega)] at hrr
  rw [ht] at hlen ⊢
  have hbb : 1 ≤ v % 9223372036854775808 ∧ v % 9223372036854775808 < 9218868437227405312 := by unfold bexp bman at *; omega
  exact numT_make (bneg v) X i f e v _ _ hfr (by omega) hrr (Or.inr ⟨m1, m2, p1, p2, v % 9223372036854775808, hbb.1, hbb.2, hr, by rw [word_eq]; exact hsplit⟩)
end Go.Proofs.YtnccpddjdgndcaaGreatDoor.Pf
end

section
/- ParseFloat GIVES BACK ANY NUMBER's TEXT; value.Read AT A NUMBER's TEXT. -/
namespace Go.Proofs.YtnccpddjdgndcaaGreatDoor.Pf
open Go.RowKit Go.Proofs.YtnccpddjdgndcaaGreatDoor.Fmt Go.Proofs.YtnccpddjdgndcaaGreatDoor.Nt Ieee
theorem atof_spec (s : ByteArray) (v : Nat) (h : ∀ w, Calls Tryz.prog 147 #[.string s] w fun e w' => e = .returned (.tuple #[.float .f64 v, .int .i64 s.size, .bool true]) ∧ w = w') (w : World) :
  Calls Tryz.prog 111 #[.string s] w fun e w' => e = .returned (.tuple #[.float .f64 v, .int .i64 s.size, .nilIface]) ∧ Below w.heap.size w w' := by
 have HA := Lib.hid h; clear h
 go_enter Tryz.func111, Tryz.ntmps111
 go_wp2_with (first | (go_at_call 147; refine (HA.out _).mono ?_; rintro e w1 ⟨rfl, rfl⟩) | fail)
 go_returns
 exact ⟨rfl, Below.refl _ _⟩
theorem parse_of (s : ByteArray) (v : Nat) (w : World) (ha : Calls Tryz.prog 111 #[.string s] w fun e w' => e = .returned (.tuple #[.float .f64 v, .int .i64 s.size, .nilIface]) ∧ Below w.heap.size w w') :
  Calls Tryz.prog 31 #[.string s, .int .i64 64] w fun e w' => e = .returned (.tuple #[.float .f64 v, .nilIface]) ∧ Below w.heap.size w w' := by
 have h1 : Calls Tryz.prog 79 #[.string s, .int .i64 64] w fun e w' => e = .returned (.tuple #[.float .f64 v, .int .i64 s.size, .nilIface]) ∧ Below w.heap.size w w' := by
  have HA := Lib.hid ha; clear ha
  go_enter Tryz.func79, Tryz.ntmps79
  go_wp2_with (go_at_call 111; refine HA.out.mono ?_; rintro e w' ⟨rfl, hb⟩)
  go_returns
  exact ⟨rfl, hb⟩
 have h2 : Calls Tryz.prog 48 #[.string s, .int .i64 64] w fun e w' => e = .returned (.tuple #[.float .f64 v, .nilIface]) ∧ Below w.heap.size w w' := by
  have HA := Lib.hid h1; clear h1 ha
  go_enter Tryz.func48, Tryz.ntmps48
  go_wp2_with (go_at_call 79; refine HA.out.mono ?_; rintro e w' ⟨rfl, hb⟩)
  go_returns
  exact ⟨rfl, hb⟩
 have HA := Lib.hid h2; clear h1 h2 ha
 go_enter Tryz.func31, Tryz.ntmps31
 go_wp2_with (go_at_call 48; refine HA.out.mono ?_; rintro e w' ⟨rfl, hb⟩)
 go_returns
 exact ⟨rfl, hb⟩
theorem parse_flt (v : Nat) (hv : v < 18446744073709551616) (hc : Ord.canon v = v) (w : World) (hW : PfW w) (hP : Pow w) :
  Calls Tryz.prog 31 #[.string ⟨(fltT v).toArray⟩, .int .i64 64] w fun e w' => e = .returned (.tuple #[.float .f64 v, .nilIface]) ∧ Below w.heap.size w w' := by
 have hx : bexp v < 2048 := Nat.mod_lt _ (by decide)
 by_cases hb : bexp v = 2047
 ·by_cases hm : bman v = 0
  ·rw [fltT_inf v hb hm]
   cases hn : bneg v
   ·have : v = 9218868437227405312 := by unfold bexp bman bneg at *; simp at hn; omega
    subst this
    exact parse_of _ _ w (atof_spec _ _ (fun w => special_pinf w) w)
   ·have : v = 18442240474082181120 := by unfold bexp bman bneg at *; simp at hn; omega
    subst this
    exact parse_of _ _ w (atof_spec _ _ (fun w => special_ninf w) w)
  ·rw [fltT_nan v hb hm]
   have hnan : Flt.nan v = true := by
    unfold Flt.nan Flt.rung
    rw [decide_eq_true_iff, show Flt.inf = 9218868437227405312 by decide, show (2 : Nat) ^ 63 = 9223372036854775808 by decide]
    unfold bexp bman at *
    omega
   have : v = 9221120237041090561 := by
    unfold Ord.canon at hc
    rw [hnan, if_pos rfl] at hc
    exact hc.symm
   subst this
   exact parse_of _ _ w (atof_spec _ _ (fun w => special_nan w) w)
 ·exact parse_num _ v (numT_of v hv (by omega)) w hW hP
theorem flt_marked (v : Nat) : marked (fltT v) = true := by
 unfold fltT
 cases h : marked (ftoaT v)
 ·rw [if_neg (by decide), marked_iff]
  exact ⟨46, by simp, Or.inl rfl⟩
 ·rw [if_pos rfl]; exact h
theorem flt_head (v : Nat) : ∃ c r, fltT v = c :: r ∧ c ≠ 34 ∧ c ≠ 121 ∧ c ≠ 110 := by
 have h0 : ∃ c r, ftoaT v = c :: r ∧ c ≠ 34 ∧ c ≠ 121 ∧ c ≠ 110 := by
  have hx : bexp v < 2048 := Nat.mod_lt _ (by decide)
  unfold ftoaT
  split
  ·split
   ·exact ⟨_, _, rfl, by decide, by decide, by decide⟩
   ·split
    ·exact ⟨_, _, rfl, by decide, by decide, by decide⟩
    ·exact ⟨_, _, rfl, by decide, by decide, by decide⟩
  ·have key : ∀ (X : List UInt8), (∃ c r, X = c :: r ∧ IsD c) → ∃ c r, sgn (bneg v) ++ X = c :: r ∧ c ≠ 34 ∧ c ≠ 121 ∧ c ≠ 110 := by
    rintro X ⟨c, r, rfl, hd⟩
    cases bneg v
    ·exact ⟨c, r, rfl, isD_ne hd _ (by decide), isD_ne hd _ (by decide), isD_ne hd _ (by decide)⟩
    ·exact ⟨45, _, rfl, by decide, by decide, by decide⟩
   split
   ·exact key _ ⟨48, [], rfl, by unfold IsD; decide⟩
   ·exact key _ (Num.mk (by omega) (by omega) : Num v).head
 obtain ⟨c, r, h, q⟩ := h0
 unfold fltT
 split
 ·exact ⟨c, r, h, q⟩
 ·exact ⟨c, r ++ [46, 48], by rw [h]; rfl, q⟩
end Go.Proofs.YtnccpddjdgndcaaGreatDoor.Pf
namespace Go.Proofs.YtnccpddjdgndcaaGreatDoor.Val
open Go.RowKit Flt
attribute [local go_sem] run_store_flt
theorem idx0 (c : UInt8) (r : List UInt8) (h : 0 < (⟨(c :: r).toArray⟩ : ByteArray).size) : ((⟨(c :: r).toArray⟩ : ByteArray)[0]'h) = c := rfl
attribute [local go_sem] idx0
theorem any_at2 (t : List UInt8) (W : World) (ha : ∀ c ∈ t, c.toNat < 128) (hl : t.length ≤ 100000) :
  Calls Tryz.prog 30 #[.string ⟨t.toArray⟩, .string ⟨#[46, 101, 73, 78]⟩] W fun e w' => e = .returned (.bool (Fmt.marked t)) ∧ Below W.heap.size W w' := by
 have h : (⟨t.toArray⟩ : ByteArray).size = t.length := by simp [ByteArray.size]
 refine Tryz.strings_ContainsAny_laid ⟨t.toArray⟩ ⟨#[46, 101, 73, 78]⟩ W (by rw [h]; omega) (by decide) (fun j b hb => ha b ?_) (fun j b hb => ?_)
 ·exact List.mem_of_getElem? hb
 ·have : b ∈ [46, 101, 73, 78] := List.mem_of_getElem? hb
  simp only [List.mem_cons, List.not_mem_nil, or_false] at this
  rcases this with rfl | rfl | rfl | rfl <;> decide
theorem flt_ascii2 (b : Nat) : ∀ c ∈ Fmt.fltT b, c.toNat < 128 := by
 intro c hc
 unfold Fmt.fltT at hc
 split at hc
 ·exact flt_ascii b c hc
 ·rcases List.mem_append.1 hc with h | h
  ·exact flt_ascii b c h
  ·simp only [List.mem_cons, List.not_mem_nil, or_false] at h
   rcases h with rfl | rfl <;> decide
set_option maxRecDepth 20000 in
set_option maxHeartbeats 4000000 in
theorem read_num (v : Nat) (hv : v < 18446744073709551616) (hc : Ord.canon v = v) (w : World) (hT : Tab.Tabs w) (hP : Pf.PfW w) :
  Calls Tryz.prog 10 #[.string ⟨(Fmt.fltT v).toArray⟩] w fun e w' => e = .returned (.tuple #[val 1 0 v [] false, .bool true]) ∧ Below w.heap.size w w' := by
 have hpa := fun W hW hP2 => Pf.parse_flt v hv hc W hW hP2
 have hlen := Pf.flt_len2 v
 have hany := fun W => any_at2 (Fmt.fltT v) W (flt_ascii2 v) (by omega)
 rw [Pf.flt_marked] at hany
 have hpr := fun W hW => vprint_any 1 0 v [] false W hv (by decide) (by decide) (by decide) hW
 have hvt : vT ⟨1, 0, v, [], false⟩ = Fmt.fltT v := by
  show Fmt.fltT (Ord.canon v) = _
  rw [hc]
 rw [hvt] at hpr
 have hcan := fun W => Ord.canon_any v W
 rw [hc] at hcan
 have hri := fun W => vright_any 1 0 v [] false W (by decide)
 rw [show vRight ⟨1, 0, v, [], false⟩ = true from rfl] at hri
 obtain ⟨c, r, hl, n34, n121, n110⟩ := Pf.flt_head v
 rw [hl] at hlen hpa hany hpr ⊢
 have HPA := Lib.hid hpa; have HAN := Lib.hid hany; have HPR := Lib.hid hpr; have HC := Lib.hid hcan; have HR := Lib.hid hri; have HT := Lib.hid hT; have HP := Lib.hid hP
 clear hpa hany hpr hcan hri hT hP hvt hc hl
 have m34 : (((c.toNat : Int)) == 34) = false := beq_eq_false_iff_ne.2 (fun h => n34 (UInt8.toNat_inj.1 (by show c.toNat = 34; omega)))
 have m121 : (c == 121) = false := beq_eq_false_iff_ne.2 n121
 have m110 : (c == 110) = false := beq_eq_false_iff_ne.2 n110
 have hP10 : Fmt.Pow w := HT.out.pow
 have HP1 := Lib.hid hP10; clear hP10
 go_enter Tryz.func10, Tryz.ntmps10
 go_wp2_with (first
  | (go_at_call 30; refine (HAN.out _).mono ?_; rintro e w1 ⟨rfl, hb1⟩; have HB1 := Lib.hid hb1; obtain ⟨c0, c1, f0, f1, hz1, hl1⟩ := two_box hb1; clear hb1)
  | (go_at_call 31; refine (HPA.out _ (HP.out.below hl1 (Nat.le_refl _)) ((HT.out.below hl1 (Nat.le_refl _)).pow)).mono ?_; rintro e w2 ⟨rfl, hb2⟩; have HB2 := Lib.hid (btrans HB1.out hb2); clear c0 c1 f0 f1 hz1 hl1 hb2; obtain ⟨c0, c1, f0, f1, hz1, hl1⟩ := two_box HB2.out)
  | (go_at_call 32; refine (HC.out _).mono ?_; rintro e w' ⟨rfl, rfl⟩) | fail)
 obtain ⟨W2, hW2, d0, ⟨e0, e1, e2, e3, e4⟩, g0, hz2, hl2⟩ := two_set HB2.out rfl (.int .i64 1) (.int .i64 0) (.float .f64 v) (.string ⟨#[]⟩) (.bool false)
 rw [← hW2]
 clear c0 c1 f0 f1 hz1 hl1 HB1 HB2 hW2
 have HB := Lib.hid hl2; clear hl2
 go_wp2_with (first
  | (go_at_call 12; refine (HR.out _).mono ?_; rintro e w3 ⟨rfl, hb3⟩; obtain ⟨hc3, hf3⟩ := bcell hb3; have hs3 := Nat.lt_of_lt_of_le hz2 hb3.size; have hs3' : w.heap.size < W2.heap.size := by omega)
  | (go_at_call 13; refine (HPR.out _ (HT.out.below (btrans HB.out hb3) (Nat.le_refl _))).mono ?_; rintro e w4 ⟨rfl, hb4⟩; obtain ⟨hc4, hf4⟩ := bcell hb4; have hs4' : w.heap.size < w3.heap.size := by omega) | fail)
 obtain ⟨r0, r1, r2, r3, r4, hb5⟩ := set5_at w4 w.heap.size (.int .i64 1) (.int .i64 0) (.float .f64 v) (.string ⟨#[]⟩) (.bool false) (fun j hj => by
  rw [hc4 _ _ (by omega), hc3 _ _ (by omega), d0, Array.getElem?_eq_getElem (by exact hj)]; rfl)
 generalize World.setCell _ _ _ = W5 at *
 refine bodyPost_ret (v := .tuple #[val 1 0 v [] false, .bool true]) (by simp [results, Tryz.results10, go_sem, r0, r1, r2, r3, r4]; try rfl) rfl ?_
 exact ⟨rfl, (btrans (btrans HB.out hb3) hb4).trans hb5⟩
end Go.Proofs.YtnccpddjdgndcaaGreatDoor.Val
end

section
/- value.Read AT A WHOLE NUMBER's TEXT, AND AT YES AND NO. -/
namespace Go.Proofs.YtnccpddjdgndcaaGreatDoor.Val
open Go.RowKit Flt
attribute [local go_sem] run_store_flt idx0
theorem uint_run : ∀ (l : List UInt8) (a : Nat), (∀ c ∈ l, Fmt.IsD c) → a * 10 ^ l.length + Fmt.dval l < 18446744073709551616 → Lib.parseUint10 a l = .ok (a * 10 ^ l.length + Fmt.dval l)
 | [], a, _, _ => by simp [Lib.parseUint10, Fmt.dval]
 | c :: l, a, hi, hl => by
  have hc := hi c (List.mem_cons_self ..)
  unfold Fmt.IsD at hc
  rw [Fmt.dval_cons, List.length_cons, Nat.pow_succ] at hl ⊢
  have p := Nat.pow_pos (n := l.length) (show 0 < 10 by decide)
  have e : a * (10 ^ l.length * 10) + ((c.toNat - 48) * 10 ^ l.length + Fmt.dval l) = (a * 10 + (c.toNat - 48)) * 10 ^ l.length + Fmt.dval l := by grind
  rw [e] at hl ⊢
  have ha := Nat.le_mul_of_pos_right (a * 10 + (c.toNat - 48)) p
  unfold Lib.parseUint10
  rw [if_pos hc, if_neg (by omega), if_neg (by omega)]
  exact uint_run l _ (fun x hx => hi x (List.mem_cons_of_mem _ hx)) hl
theorem mag_dec (u : Nat) (h : u < 18446744073709551616) : Lib.parseMag (Lib.decDigits u) = .ok u := by
 obtain ⟨hv, hd⟩ := Fmt.decDigits_val u
 have hne : Lib.decDigits u ≠ [] := by
  intro e
  have h2 := Lib.decDigits_length u
  rw [e, List.length_nil] at h2
  have := Lib.nDigits_pos u
  omega
 unfold Lib.parseMag
 rw [if_neg hne, uint_run _ 0 hd (by rw [hv]; omega), hv, Nat.zero_mul, Nat.zero_add]
theorem int_back (n : Int) (h0 : -9223372036854775808 ≤ n) (h1 : n ≤ 9223372036854775807) : Lib.parseIntB 64 (Lib.itoa n) = .ok n := by
 rw [Lib.parseIntB_64]
 by_cases hn : n < 0
 ·obtain ⟨u, rfl⟩ : ∃ u : Nat, n = -(u : Int) := ⟨n.natAbs, by omega⟩
  rw [Lib.itoa_neg u (by omega), Lib.atoiAll_minus, mag_dec u (by omega)]
  unfold Lib.signed
  simp only
  rw [if_neg (by omega)]
 ·obtain ⟨u, rfl⟩ : ∃ u : Nat, n = (u : Int) := ⟨n.toNat, by omega⟩
  rw [Lib.itoa_nonneg]
  obtain ⟨hv, hd⟩ := Fmt.decDigits_val u
  have hm := mag_dec u (by omega)
  cases hl : Lib.decDigits u with
  | nil =>
   have h2 := Lib.decDigits_length u
   rw [hl, List.length_nil] at h2
   have := Lib.nDigits_pos u
   omega
  | cons c r =>
   have hc := hd c (by rw [hl]; exact List.mem_cons_self ..)
   unfold Fmt.IsD at hc
   rw [← hl, hl, Lib.atoiAll_plain c r (by omega) (by omega), ← hl, hm]
   unfold Lib.signless
   simp only
   rw [if_neg (by omega)]
theorem itoa_sig (n : Int) : ∀ c ∈ Lib.itoa n, Fmt.IsD c ∨ c = 45 := by
 intro c hc
 unfold Lib.itoa at hc
 split at hc
 ·rcases List.mem_cons.1 hc with rfl | h
  ·exact Or.inr rfl
  ·exact Or.inl ((Fmt.decDigits_val _).2 c h)
 ·exact Or.inl ((Fmt.decDigits_val _).2 c hc)
theorem itoa_no (n : Int) : Fmt.marked (Lib.itoa n) = false := by
 cases h : Fmt.marked (Lib.itoa n)
 ·rfl
 ·rw [Fmt.marked_iff] at h
  obtain ⟨c, hc, q⟩ := h
  exfalso
  rcases itoa_sig n c hc with k | rfl
  ·unfold Fmt.IsD at k
   rcases q with rfl | rfl | rfl | rfl <;> revert k <;> decide
  ·revert q; decide
theorem itoa_head (n : Int) : ∃ c r, Lib.itoa n = c :: r ∧ c ≠ 34 ∧ c ≠ 121 ∧ c ≠ 110 := by
 have hc := itoa_sig n
 cases h : Lib.itoa n with
 | nil =>
  exfalso
  unfold Lib.itoa at h
  split at h
  ·cases h
  ·have h2 := Lib.decDigits_length n.toNat
   rw [h, List.length_nil] at h2
   have := Lib.nDigits_pos n.toNat
   omega
 | cons c r =>
  refine ⟨c, r, rfl, ?_⟩
  rw [h] at hc
  rcases hc c (List.mem_cons_self ..) with k | rfl
  ·exact ⟨Fmt.isD_ne k _ (by decide), Fmt.isD_ne k _ (by decide), Fmt.isD_ne k _ (by decide)⟩
  ·decide
set_option maxRecDepth 20000 in
set_option maxHeartbeats 4000000 in
theorem read_int (n : Int) (h0 : -9223372036854775808 ≤ n) (h1 : n ≤ 9223372036854775807) (w : World) (hT : Tab.Tabs w) :
  Calls Tryz.prog 10 #[.string ⟨(Lib.itoa n).toArray⟩] w fun e w' => e = .returned (.tuple #[val 0 n 0 [] false, .bool true]) ∧ Below w.heap.size w w' := by
 have hlen := Lib.itoa_length_le n h0 h1
 have hsz := Pf.size_list (Lib.itoa n)
 have hpa : ∀ W, Calls Tryz.prog 33 #[.string ⟨(Lib.itoa n).toArray⟩, .int .i64 10, .int .i64 64] W fun e w' => e = .returned (.tuple #[.int .i64 n, .nilIface]) ∧ Below W.heap.size W w' := fun W => by
  refine (Tryz.strconv_ParseInt_10_at64_ok ⟨(Lib.itoa n).toArray⟩ (by rw [hsz]; omega) n (int_back n h0 h1) W).mono ?_
  rintro e w' ⟨rfl, h⟩
  refine ⟨rfl, ?_⟩
  rcases h with rfl | ⟨t, rfl⟩
  ·exact Below.refl _ _
  ·exact Lib.bytesWorld_below _ _ _
 have hany := fun W => any_at2 (Lib.itoa n) W (fun c hc => by rcases itoa_sig n c hc with k | rfl; (unfold Fmt.IsD at k; omega); decide) (by omega)
 rw [itoa_no] at hany
 have hpr := fun W hW => vprint_any 0 n 0 [] false W (by decide) h0 h1 (by decide) hW
 have hvt : vT ⟨0, n, 0, [], false⟩ = Lib.itoa n := rfl
 rw [hvt] at hpr
 have hri := fun W => vright_any 0 n 0 [] false W (by decide)
 rw [show vRight ⟨0, n, 0, [], false⟩ = true from rfl] at hri
 obtain ⟨c, r, hl, n34, n121, n110⟩ := itoa_head n
 rw [hl] at hlen hpa hany hpr ⊢
 have HPA := Lib.hid hpa; have HAN := Lib.hid hany; have HPR := Lib.hid hpr; have HR := Lib.hid hri; have HT := Lib.hid hT
 clear hpa hany hpr hri hT hvt hl hsz
 have m34 : (((c.toNat : Int)) == 34) = false := beq_eq_false_iff_ne.2 (fun h => n34 (UInt8.toNat_inj.1 (by show c.toNat = 34; omega)))
 have m121 : (c == 121) = false := beq_eq_false_iff_ne.2 n121
 have m110 : (c == 110) = false := beq_eq_false_iff_ne.2 n110
 go_enter Tryz.func10, Tryz.ntmps10
 go_wp2_with (first
  | (go_at_call 30; refine (HAN.out _).mono ?_; rintro e w1 ⟨rfl, hb1⟩; have HB1 := Lib.hid hb1; obtain ⟨c0, c1, f0, f1, hz1, hl1⟩ := two_box hb1; clear hb1)
  | (go_at_call 33; refine (HPA.out _).mono ?_; rintro e w2 ⟨rfl, hb2⟩; have HB2 := Lib.hid (btrans HB1.out hb2); clear c0 c1 f0 f1 hz1 hl1 hb2; obtain ⟨c0, c1, f0, f1, hz1, hl1⟩ := two_box HB2.out) | fail)
 obtain ⟨W2, hW2, d0, ⟨e0, e1, e2, e3, e4⟩, g0, hz2, hl2⟩ := two_set HB2.out rfl (.int .i64 0) (.int .i64 n) (.float .f64 0) (.string ⟨#[]⟩) (.bool false)
 rw [← hW2]
 clear c0 c1 f0 f1 hz1 hl1 HB1 HB2 hW2
 have HB := Lib.hid hl2; clear hl2
 go_wp2_with (first
  | (go_at_call 12; refine (HR.out _).mono ?_; rintro e w3 ⟨rfl, hb3⟩; obtain ⟨hc3, hf3⟩ := bcell hb3; have hs3 := Nat.lt_of_lt_of_le hz2 hb3.size; have hs3' : w.heap.size < W2.heap.size := by omega)
  | (go_at_call 13; refine (HPR.out _ (HT.out.below (btrans HB.out hb3) (Nat.le_refl _))).mono ?_; rintro e w4 ⟨rfl, hb4⟩; obtain ⟨hc4, hf4⟩ := bcell hb4; have hs4' : w.heap.size < w3.heap.size := by omega) | fail)
 obtain ⟨r0, r1, r2, r3, r4, hb5⟩ := set5_at w4 w.heap.size (.int .i64 0) (.int .i64 n) (.float .f64 0) (.string ⟨#[]⟩) (.bool false) (fun j hj => by
  rw [hc4 _ _ (by omega), hc3 _ _ (by omega), d0, Array.getElem?_eq_getElem (by exact hj)]; rfl)
 generalize World.setCell _ _ _ = W5 at *
 refine bodyPost_ret (v := .tuple #[val 0 n 0 [] false, .bool true]) (by simp [results, Tryz.results10, go_sem, r0, r1, r2, r3, r4]; try rfl) rfl ?_
 exact ⟨rfl, (btrans (btrans HB.out hb3) hb4).trans hb5⟩
set_option maxRecDepth 20000 in
set_option maxHeartbeats 4000000 in
theorem read_bool (b : Bool) (w : World) (hT : Tab.Tabs w) :
  Calls Tryz.prog 10 #[.string ⟨(if b then yesT else noT).toArray⟩] w fun e w' => e = .returned (.tuple #[val 3 0 0 [] b, .bool true]) ∧ Below w.heap.size w w' := by
 have hpr := fun W hW => vprint_any 3 0 0 [] b W (by decide) (by decide) (by decide) (by decide) hW
 have hri := fun W => vright_any 3 0 0 [] b W (by decide)
 rw [show vRight ⟨3, 0, 0, [], b⟩ = true from rfl] at hri
 rw [show vT ⟨3, 0, 0, [], b⟩ = (if b then yesT else noT) from rfl] at hpr
 have HPR := Lib.hid hpr; have HR := Lib.hid hri; have HT := Lib.hid hT
 clear hpr hri hT
 have hq : (noT == [121, 101, 115]) = false := by decide
 cases b
 ·skip
  go_enter Tryz.func10, Tryz.ntmps10
  go_wp2_with (first
   | (go_at_call 12; refine (HR.out _).mono ?_; rintro e w3 ⟨rfl, hb3⟩; obtain ⟨c0, c1, f0, f1, hz1, hl1⟩ := two_box hb3)
   | (go_at_call 13; refine (HPR.out _ (HT.out.below hl1 (Nat.le_refl _))).mono ?_; rintro e w4 ⟨rfl, hb4⟩; obtain ⟨hc4, hf4⟩ := bcell hb4; have hs4' : w.heap.size < w3.heap.size := by omega) | fail)
  obtain ⟨r0, r1, r2, r3, r4, hb5⟩ := set5_at w4 w.heap.size (.int .i64 3) (.int .i64 0) (.float .f64 0) (.string ⟨#[]⟩) (.bool false) (fun j hj => by
   rw [hc4 _ _ (by omega), c0, Array.getElem?_eq_getElem (by exact hj)]; rfl)
  generalize World.setCell _ _ _ = W5 at *
  refine bodyPost_ret (v := .tuple #[val 3 0 0 [] false, .bool true]) (by simp [results, Tryz.results10, go_sem, r0, r1, r2, r3, r4]; try rfl) rfl ?_
  exact ⟨rfl, (btrans hl1 hb4).trans hb5⟩
 ·skip
  go_enter Tryz.func10, Tryz.ntmps10
  go_wp2_with (first
   | (go_at_call 12; refine (HR.out _).mono ?_; rintro e w3 ⟨rfl, hb3⟩; obtain ⟨c0, c1, f0, f1, hz1, hl1⟩ := two_box hb3)
   | (go_at_call 13; refine (HPR.out _ (HT.out.below hl1 (Nat.le_refl _))).mono ?_; rintro e w4 ⟨rfl, hb4⟩; obtain ⟨hc4, hf4⟩ := bcell hb4; have hs4' : w.heap.size < w3.heap.size := by omega) | fail)
  obtain ⟨r0, r1, r2, r3, r4, hb5⟩ := set5_at w4 w.heap.size (.int .i64 3) (.int .i64 0) (.float .f64 0) (.string ⟨#[]⟩) (.bool true) (fun j hj => by
   rw [hc4 _ _ (by omega), c0, Array.getElem?_eq_getElem (by exact hj)]; rfl)
  generalize World.setCell _ _ _ = W5 at *
  refine bodyPost_ret (v := .tuple #[val 3 0 0 [] true, .bool true]) (by simp [results, Tryz.results10, go_sem, r0, r1, r2, r3, r4]; try rfl) rfl ?_
  exact ⟨rfl, (btrans hl1 hb4).trans hb5⟩
end Go.Proofs.YtnccpddjdgndcaaGreatDoor.Val
end
