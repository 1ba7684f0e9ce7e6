/- MERGED BY A PROGRAM OF MINE (mg.py) out of my own texts, in their order: FmtP, Laid, Tabs, Print, EPrint, FlatA, Insert, InsertFn, Ins, ImplFn, NewFn, New, Fit03, OpenA, Light03, ERight. -/
import Derived.Test.YthdihhkadaafcaaGreatDoorFmtO
import Derived.Test.YthdihhkadaafcaaGreatDoorFmtW
import Derived.Laws.IdiomStrings
import Derived.Test.YthdihhkadaafcaaGreatDoorCond
import Derived.LaidSub
import Derived.OpenShut
import Derived.MakeChecks
import Derived.Lib.LaidTab
import Derived.PinnedBridge
import Derived.Lib.LaidPrint
import Derived.Lib.LaidU8
import Derived.Test.YthdihhkadaafcaaGreatDoorVal
import Derived.Test.YthdihhkadaafcaaGreatDoorQuo
import Derived.Lib.AppendIntMem
import Derived.Test.YthdihhkadaafcaaGreatDoorMatch
import Derived.Test.YthdihhkadaafcaaGreatDoorAttr
import Derived.Laws.AppendOwn
import Derived.Lib.SlicesS
import Derived.Laws.CopyRow
import Derived.Laws.CopyOwn
import Derived.Lib.AppendZerosOnto
import Derived.Lib.Overlaps
import Derived.Laws.OwnMore
import Derived.Deep.RegionLaw
import Derived.Shelf.Spec.SlicesInsert
import Derived.Test.YthdihhkadaafcaaGreatDoorCondLaw
import Derived.Test.YthdihhkadaafcaaGreatDoorCondVoid
import Derived.Test.YthdihhkadaafcaaGreatDoorCondFit
import Derived.Test.YthdihhkadaafcaaGreatDoorOpenV
import Derived.Laws.StructEq

section
/- strconv.FormatFloat(x, 'g', -1, 64) AT EVERY x: what it hands back. -/
namespace Go.Proofs.YthdihhkadaafcaaGreatDoor.Fmt
open Go.RowKit Go.Lib
theorem ftoa_any (b base : Nat) (v : Value) (txt : List UInt8) (w : World) (hb : b < 18446744073709551616) (hs : St w w base none v txt) (hl : txt.length ≤ 100) (hp : Pow w) (ht : P10 w) :
    Calls Tryz.prog 115 #[v, .float .f64 b, .int .u8 103, .int .i64 (-1)] w fun e w' =>
      ∃ v', e = .returned v' ∧ St w w' base none v' (txt ++ ftoaT b) := by
  have hx : bexp b < 2048 := Nat.mod_lt _ (by decide)
  by_cases h1 : bexp b = 2047
  · by_cases h2 : bman b = 0
    · have e : ftoaT b = (if bneg b then [45, 73, 110, 102] else [43, 73, 110, 102]) := by unfold ftoaT; rw [if_pos h1, if_neg (by omega)]
      rw [e]
      exact ftoa_inf b base v txt w hb h2 h1 hs hl
    · have e : ftoaT b = [78, 97, 78] := by unfold ftoaT; rw [if_pos h1, if_pos h2]
      rw [e]
      exact ftoa_nan b base v txt w hb h2 h1 hs hl
  · by_cases h3 : bexp b = 0
    · by_cases h4 : bman b = 0
      · have e : ftoaT b = sgn (bneg b) ++ [48] := by unfold ftoaT; rw [if_neg h1, if_pos ⟨h3, h4⟩]
        rw [e, ← List.append_assoc]
        exact ftoa_zero b base v txt w hb h4 h3 hs hl
      · have e : ftoaT b = sgn (bneg b) ++ numT b := by unfold ftoaT; rw [if_neg h1, if_neg (by omega)]
        rw [e, ← List.append_assoc]
        exact ftoa_sub b base v txt w hb h3 (by omega) hs hl hp ht
    · have e : ftoaT b = sgn (bneg b) ++ numT b := by unfold ftoaT; rw [if_neg h1, if_neg (by omega)]
      rw [e, ← List.append_assoc]
      exact ftoa_norm b base v txt w hb (by omega) (by omega) hs hl hp ht
theorem ftoaT_pos (b : Nat) : 0 < (ftoaT b).length := by
  have hx : bexp b < 2048 := Nat.mod_lt _ (by decide)
  unfold ftoaT
  split
  · split
    · decide
    · split <;> decide
  · split
    · simp
    · rename_i h1 h2
      obtain ⟨c, r, e, _⟩ := (Num.mk (by omega) (by omega) : Num b).head
      rw [e, List.length_append, List.length_cons]
      omega
theorem own_cells {W : World} {base g cap : Nat} {t : List UInt8} (h : W.ownsRow base 5 1 (.slice (some ⟨g, 0, none⟩) t.length cap) t.length (t.map e8)) :
    ∀ j (hj : j < t.length), W.cell? ((⟨g, 0, none⟩ : Addr).add j) = some (.int .u8 (t[j].toNat : Int)) := fun j hj => by
  refine h.cells rfl j _ ?_
  rw [List.getElem?_map, List.getElem?_eq_getElem hj]
  rfl
set_option maxRecDepth 20000 in
set_option maxHeartbeats 1000000 in
theorem iformat_any (b : Nat) (w : World) (hb : b < 18446744073709551616) (hp : Pow w) (ht : P10 w) :
    Calls Tryz.prog 83 #[.float .f64 b, .int .u8 103, .int .i64 (-1), .int .i64 64] w fun e w' =>
      e = .returned (.string ⟨(ftoaT b).toArray⟩) ∧ Below w.heap.size w w' := by
  obtain ⟨i0, hi, hz0, hz1, hz2⟩ := info_parts info_u8
  have hft : ∀ v W, St W W w.heap.size none v [] → Below w.heap.size w W → Calls Tryz.prog 115 #[v, .float .f64 b, .int .u8 103, .int .i64 (-1)] W fun e w' => ∃ v', e = .returned v' ∧ St W w' w.heap.size none v' (ftoaT b) :=
    fun v W hs hb2 => by
      have := ftoa_any b w.heap.size v [] W hb hs (by decide) (fun i hi => ⟨(hb2.cell (p := ⟨7, i * 2, none⟩) hp.lt).trans (hp i hi).1, (hb2.cell (p := ⟨7, i * 2 + 1, none⟩) hp.lt).trans (hp i hi).2⟩) (ht.below hb2 (Nat.le_refl _))
      rwa [List.nil_append] at this
  have HF := Lib.hid hft; clear hft
  have hpos := ftoaT_pos b
  generalize ftoaT b = t at *
  have HPOS := Lib.hid hpos; clear hpos
  clear hp ht
  go_enter Tryz.func83, Tryz.ntmps83
  go_wp2_with (first
    | (at_make; refine wpList_make_own _ rfl _ _ 58 rfl w.heap.size 5 i0 (.int .u8 0) 1 Tryz.underlying58 hi hz0 hz1 _ _ _ 24 rfl rfl (by first | rfl | assumption) (by rw [hz2]; omega) (by unfold maxLen; omega) (Nat.le_refl _) ?_; intro w1 hown hg)
    | (go_at_call 115; refine (HF.out _ _ ⟨hown, fun p hp => (by cases hp), Below.refl _ _, hg.size⟩ ((Below.refl _ w).grown hg (Nat.le_refl _) (by intro k hk; cases hk))).mono ?_; rintro e w2 ⟨v2, rfl, hs2⟩; obtain ⟨g, cap, rfl⟩ := Go.Joins.ownsRow_form hs2.own HPOS.out; have hcv := run_convert_bytes_back (P := Tryz.prog) w2 58 9 5 ⟨g, 0, none⟩ cap t Tryz.underlying58 Tryz.underlying5 Tryz.underlying9 (own_cells hs2.own))
    | fail)
  go_ret
  exact ⟨rfl, ((Below.refl _ w).grown hg (Nat.le_refl _) (by intro k hk; cases hk)).trans hs2.low⟩
set_option maxHeartbeats 1000000 in
theorem format_any (b : Nat) (w : World) (hb : b < 18446744073709551616) (hp : Pow w) (ht : P10 w) :
    Calls Tryz.prog 49 #[.float .f64 b, .int .u8 103, .int .i64 (-1), .int .i64 64] w fun e w' =>
      e = .returned (.string ⟨(ftoaT b).toArray⟩) ∧ Below w.heap.size w w' := by
  have hf := iformat_any b w hb hp ht
  have hd := iformat_any b w.drew hb (fun i hi => hp i hi) ht
  generalize ftoaT b = t at *
  have HF := Lib.hid hf; have HE := Lib.hid hd; clear hf hd hp ht
  go_enter Tryz.func49, Tryz.ntmps49
  go_wp2_with (first | (go_at_call 83; (first | refine HF.out.mono ?_ | refine HE.out.mono ?_); rintro e w2 ⟨rfl, hb2⟩; have HB := Lib.hid hb2; clear hb2) | fail)
  go_ret
  exact ⟨rfl, HB.out⟩
end Go.Proofs.YthdihhkadaafcaaGreatDoor.Fmt
end

section
/- WHAT A ROW's LIST OF LAID VARIABLES SAYS OF ONE TABLE OF TEXTS. -/
namespace Go.Proofs.YthdihhkadaafcaaGreatDoor.Laid
open Go.Lib
theorem strs_of_tab {H : Type} {enc : TypeId × Value → H} {P : Program} {w : World} {base : Nat} {sp : Nat → Bool} {held : Bool} {fuel : Nat} {t e : TypeId} {n : Nat} {cs : List Value} {zs : List (List UInt8)} {p : List MemPlace}
    (ht : P.underlying t = some (.array n e)) (he : P.underlying e = some .string) (hce : P.cellsOf e = 1) (hct : P.cellsOf t = n)
    (h : DataW.trod enc P w base sp held fuel t cs = some (.agg (zs.map fun z => .lit (.string z)), p)) : cs = zs.map fun z => Value.string ⟨z.toArray⟩ := by
  obtain ⟨xs, m, rfl, hx, hl, hxl, hf⟩ := DataW.trod_array ht h
  have hxs : xs.map (·.1) = zs.map fun z => (DataW.lit (.string z) : DataW H) := by
    have := congrArg Prod.fst hx
    simpa using this.symm
  have hzl : zs.length = n := by have := congrArg List.length hxs; simp at this; omega
  have hcl : cs.length = n := by omega
  apply List.ext_getElem?
  intro i
  by_cases hi : i < n
  · have h1 := hf i hi
    rw [hce, Nat.mul_one] at h1
    rw [List.getElem?_eq_getElem (by omega)] at h1
    obtain ⟨s, hc, hz, _⟩ := DataW.trod_string he h1
    have hci : cs[i]? = some (.string s) := by
      have := congrArg (·[0]?) hc
      simpa [List.getElem?_take, List.getElem?_drop] using this
    have h2 : (xs.map (·.1))[i]? = some (DataW.lit (.string s.data.toList) : DataW H) := by
      rw [List.getElem?_map, List.getElem?_eq_getElem (by omega), hz]; rfl
    rw [hxs] at h2
    simp only [List.getElem?_map, Option.map_eq_some_iff, DataW.lit.injEq, Lit.string.injEq] at h2
    obtain ⟨z', hz', rfl⟩ := h2
    rw [hci, List.getElem?_map, hz']; rfl
  · rw [List.getElem?_eq_none (by omega), List.getElem?_eq_none (by simp; omega)]
/-- the cells of a table of texts that a row lists -/
theorem strs {P : Program} {W : World} {name : String} {zs : List (List UInt8)} {l : List (String × DataW Unit)} {g : Nat} {t e : TypeId} {n : Nat}
    (hl : l.filter (fun x => x.1 == name) = [(name, .agg (zs.map fun z => .lit (.string z)))])
    (hg : P.globalNamed name = some g) (hty : (P.globals[g]?).map (·.type) = some t) (ht : P.underlying t = some (.array n e)) (he : P.underlying e = some .string) (hce : P.cellsOf e = 1) (hct : P.cellsOf t = n)
    (hn : (l.all fun x => x.2.handleName?.isNone) = true) (h : laidMetH P l W) (i : Nat) (hi : i < zs.length) : W.cell? ⟨g, i, none⟩ = some (.string ⟨(zs.getD i []).toArray⟩) := by
  rw [MakeChecks.laidMetH_plain _ _ _ hn] at h
  have h' := h.filter (fun x => x.1 == name)
  rw [hl] at h'
  obtain ⟨ps, ⟨g', t', cs, fuel, p, q, hg', ht', hvar, hd, _, _⟩, _⟩ := h'
  obtain rfl := Option.some.inj (hg.symm.trans hg')
  obtain rfl := Option.some.inj (hty.symm.trans ht')
  have hcs := strs_of_tab ht he hce hct hd
  rw [World.var?_cell hg hvar i, ← Array.getElem?_toList, hcs, List.getElem?_map, List.getElem?_eq_getElem hi]
  simp [List.getD, hi]
end Go.Proofs.YthdihhkadaafcaaGreatDoor.Laid
end

section
/- THE TABLES THAT A VALUE's TEXT READS: as a row lays them; they stand where nothing old turns. -/
namespace Go.Proofs.YthdihhkadaafcaaGreatDoor.Tab
open Go.RowKit Go.Lib
structure Tabs (w : World) : Prop where
  pow : Fmt.Pow w
  p10 : Fmt.P10 w
  prt : Lib.PrintTabsAt 11 12 13 14 goPrintTabs w
  utf : Lib.Utf8Tabs 9 10 w
theorem cell_below {w w' : World} {B : Nat} {a : Addr} {v : Value} (hb : Below B w w') (hB : w.heap.size ≤ B) (h : w.cell? a = some v) : w'.cell? a = some v :=
  (hb.cell (p := a) (Nat.lt_of_lt_of_le (World.block_lt_of_cell? _ _ h) hB)).trans h
theorem tabSlice_below {w w' : World} {B g : Nat} {k : IntKind} {t : List Nat} (hb : Below B w w') (hB : w.heap.size ≤ B) (h : TabSlice g k t w) : TabSlice g k t w' := by
  obtain ⟨R, o, c, h1, h2⟩ := h
  exact ⟨R, o, c, cell_below hb hB h1, fun j hj => cell_below hb hB (h2 j hj)⟩
theorem Tabs.below {w w' : World} {B : Nat} (h : Tabs w) (hb : Below B w w') (hB : w.heap.size ≤ B) : Tabs w' := by
  obtain ⟨p1, p2, p3, p4, p5⟩ := h.prt
  exact ⟨fun i hi => ⟨cell_below hb hB (h.pow i hi).1, cell_below hb hB (h.pow i hi).2⟩, h.p10.below hb hB,
    ⟨tabSlice_below hb hB p1, tabSlice_below hb hB p2, tabSlice_below hb hB p3, tabSlice_below hb hB p4, p5⟩,
    fun c hc => cell_below hb hB (h.utf.1 c hc), fun i hi => ⟨cell_below hb hB (h.utf.2 i hi).1, cell_below hb hB (h.utf.2 i hi).2⟩⟩
theorem reads_of {l : List (String × DataW Unit)} {W : World} {n : String} {d : DataW Unit} (h : laidMet Tryz.prog l W) (hf : l.find? (fun x => x.1 == n) = some (n, d)) : VarReads Tryz.prog W n d :=
  Go.Lib.laidMet.reads h (List.mem_of_find?_eq_some hf)
theorem tabIs_of_reads {P : Program} {W : World} {name : String} {k : IntKind} {zs : List Int} {g : Nat} {t e : TypeId} {n : Nat}
    (hg : P.globalNamed name = some g) (hty : (P.globals[g]?).map (·.type) = some t) (ht : P.underlying t = some (.array n e)) (he : P.underlying e = some (.int k)) (hce : P.cellsOf e = 1) (hct : P.cellsOf t = n)
    (h : VarReads P W name (tabData k zs)) : TabIs P W name k zs := by
  obtain ⟨g', t', cs, fuel, p, hg', ht', hvar, hd⟩ := h
  obtain rfl := Option.some.inj (hg.symm.trans hg')
  obtain rfl := Option.some.inj (hty.symm.trans ht')
  unfold TabIs
  rw [hvar, ← cells_of_tab ht he hce hct hd]
theorem pow_of_reads {W : World} (h : VarReads Tryz.prog W "internal/strconv.pow10Tab" Go.Pinned.pow10Tab) : Fmt.Pow W := by
  intro i hi
  obtain ⟨g, t, cs, fuel, p, hg, hty, hvar, hd⟩ := h
  obtain rfl := Option.some.inj ((show Tryz.prog.globalNamed "internal/strconv.pow10Tab" = some 7 by kernel_rfl).symm.trans hg)
  obtain rfl := Option.some.inj ((show (Tryz.prog.globals[7]?).map (·.type) = some 196 by kernel_rfl).symm.trans hty)
  have hlen : Go.Pinned.pow10Rows.length = 696 := by decide +kernel
  obtain ⟨fuel', d, q, hdi, he⟩ := array_elem Tryz.underlying196 hd i hi
  have c2 : Tryz.prog.cellsOf 195 = 2 := by kernel_rfl
  have c1 : Tryz.prog.cellsOf 125 = 1 := by kernel_rfl
  have hrow : Go.Pinned.pow10Rows[i]? = some (Go.Pinned.pow10Rows.getD i (0, 0)) := by
    rw [List.getD_eq_getElem?_getD, List.getElem?_eq_getElem (by omega)]; rfl
  rw [List.getElem?_map, hrow, Option.map_some, Option.some.injEq] at hdi
  subst hdi
  rw [c2] at he
  have hcs := ints_of_struct (k := .u64) (zs := [(Fmt.hiT i : Int), (Fmt.loT i : Int)]) Tryz.underlying195 (fun j f hj => by
    match j, hj with
    | 0, hj => simp at hj; subst hj; exact ⟨Tryz.underlying125, rfl, c1⟩
    | 1, hj => simp at hj; subst hj; exact ⟨Tryz.underlying125, rfl, c1⟩
    | j + 2, hj => simp at hj) (by rw [c2]; rfl) he
  have e0 := congrArg (·[0]?) hcs
  have e1 := congrArg (·[1]?) hcs
  simp only [List.getElem?_take, List.getElem?_drop] at e0 e1
  constructor
  · rw [World.var?_cell hg hvar (i * 2), ← Array.getElem?_toList]
    simpa using e0
  · rw [World.var?_cell hg hvar (i * 2 + 1), ← Array.getElem?_toList]
    simpa using e1
theorem u8x : U8Extra Tryz.prog Tryz.lays260_ren := ⟨by kernel_rfl, by kernel_rfl, by kernel_rfl, by kernel_rfl, by kernel_rfl, by kernel_rfl, by kernel_rfl⟩
theorem prx : PrintExtra Tryz.prog Tryz.lays339_ren := ⟨by kernel_rfl, by kernel_rfl, by kernel_rfl, by kernel_rfl, by kernel_rfl, by kernel_rfl, by kernel_rfl, by kernel_rfl, by kernel_rfl, by kernel_rfl⟩
/-- what a row must list -/
structure Lists (l : List (String × DataW Unit)) : Prop where
  plain : (l.all fun x => x.2.handleName?.isNone) = true
  f1 : l.find? (fun x => x.1 == "internal/strconv.pow10Tab") = some ("internal/strconv.pow10Tab", Go.Pinned.pow10Tab)
  f2 : l.find? (fun x => x.1 == "internal/strconv.uint64pow10") = some ("internal/strconv.uint64pow10", tabData .u64 Lib.pow10Tab)
  f3 : l.find? (fun x => x.1 == "strconv.isPrint16") = some ("strconv.isPrint16", Go.Pinned.isPrint16)
  f4 : l.find? (fun x => x.1 == "strconv.isNotPrint16") = some ("strconv.isNotPrint16", Go.Pinned.isNotPrint16)
  f5 : l.find? (fun x => x.1 == "strconv.isPrint32") = some ("strconv.isPrint32", Go.Pinned.isPrint32)
  f6 : l.find? (fun x => x.1 == "strconv.isNotPrint32") = some ("strconv.isNotPrint32", Go.Pinned.isNotPrint32)
  f7 : l.find? (fun x => x.1 == "unicode/utf8.first") = some ("unicode/utf8.first", Go.Pinned.utf8First)
  f8 : l.find? (fun x => x.1 == "unicode/utf8.acceptRanges") = some ("unicode/utf8.acceptRanges", acceptData)
theorem tabs_of {l : List (String × DataW Unit)} {W : World} (L : Lists l) (h : laidMetH Tryz.prog l W) : Tabs W := by
  rw [MakeChecks.laidMetH_plain _ _ _ L.plain] at h
  have r3 := reads_of h L.f3; have r4 := reads_of h L.f4; have r5 := reads_of h L.f5; have r6 := reads_of h L.f6; have r7 := reads_of h L.f7
  rw [Pinned.isPrint16_eq] at r3
  rw [Pinned.isNotPrint16_eq] at r4
  rw [Pinned.isPrint32_eq] at r5
  rw [Pinned.isNotPrint32_eq] at r6
  rw [Pinned.utf8First_eq] at r7
  exact ⟨pow_of_reads (reads_of h L.f1), tabIs_of_reads (g := 3) (by kernel_rfl) (by kernel_rfl) Tryz.underlying149 Tryz.underlying125 (by kernel_rfl) (by kernel_rfl) (reads_of h L.f2),
    printTabs_of_reads Tryz.lays339 prx r3 r4 r5 r6, utf8Tabs_of_reads Tryz.lays260 u8x r7 (reads_of h L.f8)⟩
end Go.Proofs.YthdihhkadaafcaaGreatDoor.Tab
end

section
/- THE WALK OF value.Print: what a value's text is. -/
namespace Go.Proofs.YthdihhkadaafcaaGreatDoor.Val
open Go.RowKit Flt
def yesT : List UInt8 := [121, 101, 115]
def noT : List UInt8 := [110, 111]
/-- a value's text -/
def vT (v : V) : List UInt8 :=
  if v.kind == 0 then Lib.itoa v.int else if v.kind == 1 then Fmt.fltT (Ord.canon v.num) else if v.kind == 2 then Quo.quoteT Lib.goPrintTabs v.text else if v.yes then yesT else noT
theorem canon_lt (x : Nat) (h : x < 18446744073709551616) : Ord.canon x < 18446744073709551616 := by
  unfold Ord.canon Ord.nan0
  split
  · decide
  · split
    · decide
    · exact h
theorem flt_ascii (b : Nat) : ∀ c ∈ Fmt.ftoaT b, c.toNat < 128 := by
  intro c hc
  have hx : Fmt.bexp b < 2048 := Nat.mod_lt _ (by decide)
  unfold Fmt.ftoaT at hc
  split at hc
  · split at hc
    · simp only [List.mem_cons, List.not_mem_nil, or_false] at hc
      rcases hc with rfl | rfl | rfl <;> decide
    · split at hc
      · simp only [List.mem_cons, List.not_mem_nil, or_false] at hc
        rcases hc with rfl | rfl | rfl | rfl <;> decide
      · simp only [List.mem_cons, List.not_mem_nil, or_false] at hc
        rcases hc with rfl | rfl | rfl | rfl <;> decide
  · have hs : ∀ c ∈ Fmt.sgn (Fmt.bneg b), c.toNat < 128 := by
      intro c hc
      unfold Fmt.sgn at hc
      split at hc
      · rw [List.mem_singleton] at hc; subst hc; decide
      · cases hc
    rename_i h1
    split at hc
    · rcases List.mem_append.1 hc with hc | hc
      · exact hs c hc
      · rw [List.mem_singleton] at hc; subst hc; decide
    · rename_i h2
      rcases List.mem_append.1 hc with hc | hc
      · exact hs c hc
      · rcases (Fmt.Num.mk (by omega) (by omega) : Fmt.Num b).isN c hc with h | h | h | h | h
        · unfold Fmt.IsD at h; omega
        all_goals (subst h; decide)
theorem flt_len (b : Nat) : (Fmt.ftoaT b).length ≤ 1000 := by
  have hx : Fmt.bexp b < 2048 := Nat.mod_lt _ (by decide)
  unfold Fmt.ftoaT
  split
  · split
    · decide
    · split <;> decide
  · have hs : (Fmt.sgn (Fmt.bneg b)).length ≤ 1 := by unfold Fmt.sgn; split <;> decide
    rename_i h1
    split
    · rw [List.length_append, List.length_singleton]; omega
    · rename_i h2
      have hn := (Fmt.Num.mk (by omega) (by omega) : Fmt.Num b)
      obtain ⟨f1, f2, f3, f4⟩ := hn.facts
      obtain ⟨g1, g2, g3, g4⟩ := hn.nd
      rw [List.length_append]
      have : (Fmt.numT b).length ≤ 900 := by
        unfold Fmt.numT
        generalize Fmt.digs _ = D at *
        generalize (Lib.nDigits (Fmt.short (Fmt.fm b) (Fmt.fE b)).1 : Nat) = n at *
        generalize (Fmt.short (Fmt.fm b) (Fmt.fE b)).2 = p at *
        unfold Fmt.gText
        split
        · unfold Fmt.eText Fmt.exps
          simp only [List.length_append, List.length_cons, List.length_nil]
          split <;> split <;> split <;> simp <;> omega
        · unfold Fmt.fText
          rw [List.length_append]
          split <;> split <;> simp <;> omega
      omega
theorem badd (s t : List UInt8) : (⟨s.toArray⟩ : ByteArray) ++ ⟨t.toArray⟩ = ⟨(s ++ t).toArray⟩ := by
  apply ByteArray.ext
  simp
theorem quote_at (t : List UInt8) (W : World) (hl : t.length ≤ 1000000) (hW : Tab.Tabs W) :
    Calls Tryz.prog 52 #[.string ⟨t.toArray⟩] W fun e w' => e = .returned (.string ⟨(Quo.quoteT Lib.goPrintTabs t).toArray⟩) ∧ Below W.heap.size W w' := by
  have h : (⟨t.toArray⟩ : ByteArray).size = t.length := by simp [ByteArray.size]
  exact Tryz.strconv_Quote Lib.goPrintTabs ⟨t.toArray⟩ W (by rw [h]; omega) hW.prt hW.utf
theorem itoa_at (n : Int) (W : World) (h0 : -9223372036854775808 ≤ n) (h1 : n ≤ 9223372036854775807) (hW : Fmt.P10 W) :
    Calls Tryz.prog 48 #[.int .i64 n, .int .i64 10] W fun e w' => e = .returned (.string ⟨(Lib.itoa n).toArray⟩) ∧ Below W.heap.size W w' := by
  refine (Tryz.strconv_FormatInt_10 n h0 h1 W hW).mono ?_
  rintro e w' ⟨rfl, k, os, rfl⟩
  exact ⟨rfl, Go.Lib.below_grow _ _ (Nat.le_refl _) _ _⟩
theorem any_at (t : List UInt8) (W : World) (ha : ∀ c ∈ t, c.toNat < 128) (hl : t.length ≤ 1000) :
    Calls Tryz.prog 51 #[.string ⟨t.toArray⟩, .string ⟨#[46, 101, 73, 78]⟩] W fun e w' => e = .returned (.bool (Fmt.marked t)) ∧ Below W.heap.size W w' := by
  have h : (⟨t.toArray⟩ : ByteArray).size = t.length := by simp [ByteArray.size]
  refine Tryz.strings_ContainsAny_laid ⟨t.toArray⟩ ⟨#[46, 101, 73, 78]⟩ W (by rw [h]; omega) (by decide) (fun j b hb => ha b ?_) (fun j b hb => ?_)
  · exact List.mem_of_getElem? hb
  · have : b ∈ [46, 101, 73, 78] := List.mem_of_getElem? hb
    simp only [List.mem_cons, List.not_mem_nil, or_false] at this
    rcases this with rfl | rfl | rfl | rfl <;> decide
set_option maxRecDepth 20000 in
set_option maxHeartbeats 1000000 in
theorem vprint_any (k n : Int) (x : Nat) (t : List UInt8) (y : Bool) (w : World) (hx : x < 18446744073709551616) (h0 : -9223372036854775808 ≤ n) (h1 : n ≤ 9223372036854775807) (hl : t.length ≤ 1000000) (hT : Tab.Tabs w) :
    Calls Tryz.prog 15 #[val k n x t y] w fun e w' => e = .returned (.string ⟨(vT ⟨k, n, x, t, y⟩).toArray⟩) ∧ Below w.heap.size w w' := by
  have hr : vT ⟨k, n, x, t, y⟩ = (if k == 0 then Lib.itoa n else if k == 1 then Fmt.fltT (Ord.canon x) else if k == 2 then Quo.quoteT Lib.goPrintTabs t else if y then yesT else noT) := rfl
  have HT := Lib.hid hT; clear hT
  cases q0 : (k == 0)
  · cases q1 : (k == 1)
    · cases q2 : (k == 2)
      · rw [q0, q1, q2] at hr
        cases y
        all_goals
          rw [hr]; clear hr
          go_enter Tryz.func15, Tryz.ntmps15
          go_wp2
          go_ret
          exact ⟨rfl, balloc _ _⟩
      · rw [q0, q1, q2] at hr
        have HR := Lib.hid hr; clear hr
        have hq := fun W hW => quote_at t W hl hW
        have HQ := Lib.hid hq; clear hq
        go_enter Tryz.func15, Tryz.ntmps15
        go_wp2_with (first | (go_at_call 52; refine (HQ.out _ (HT.out.below (by first | exact balloc _ _ | exact (balloc _ _).drew) (Nat.le_refl _))).mono ?_; rintro e w1 ⟨rfl, hb1⟩; have HB := Lib.hid hb1; clear hb1) | fail)
        go_ret
        exact ⟨by rw [HR.out]; rfl, btrans (by first | exact balloc _ _ | exact (balloc _ _).drew) HB.out⟩
    · rw [q0, q1] at hr
      have hf := fun W hW => Fmt.format_any (Ord.canon x) W (canon_lt x hx) (Tab.Tabs.pow hW) (Tab.Tabs.p10 hW)
      have hm := fun W => any_at (Fmt.ftoaT (Ord.canon x)) W (flt_ascii _) (flt_len _)
      have ht : Fmt.fltT (Ord.canon x) = if Fmt.marked (Fmt.ftoaT (Ord.canon x)) then Fmt.ftoaT (Ord.canon x) else Fmt.ftoaT (Ord.canon x) ++ [46, 48] := rfl
      have hlen := flt_len (Ord.canon x)
      rw [ht] at hr
      clear ht
      generalize Fmt.ftoaT (Ord.canon x) = s at *
      cases hmk : Fmt.marked s
      all_goals
        rw [hmk] at hr hm
        clear hmk
        have HR := Lib.hid hr; clear hr
        have HF := Lib.hid hf; have HM := Lib.hid hm; clear hf hm
        go_enter Tryz.func15, Tryz.ntmps15
        go_wp2_with (first | (go_at_call 50; refine (Ord.canon_any _ _).mono ?_; rintro e w' ⟨rfl, rfl⟩) | (go_at_call 49; refine (HF.out _ (HT.out.below (by first | exact balloc _ _ | exact (balloc _ _).drew) (Nat.le_refl _))).mono ?_; rintro e w1 ⟨rfl, hb1⟩; have HB := Lib.hid hb1; clear hb1) | (go_at_call 51; refine (HM.out _).mono ?_; rintro e w2 ⟨rfl, hb2⟩; have HC := Lib.hid hb2; clear hb2) | fail)
        go_ret
        exact ⟨by rw [HR.out]; first | rfl | exact congrArg (fun z => Ending.returned (Value.string z)) (badd s [46, 48]), btrans (btrans (by first | exact balloc _ _ | exact (balloc _ _).drew) HB.out) HC.out⟩
  · rw [q0] at hr
    have HR := Lib.hid hr; clear hr
    have hf := fun W hW => itoa_at n W h0 h1 (Tab.Tabs.p10 hW)
    have HF := Lib.hid hf; clear hf
    go_enter Tryz.func15, Tryz.ntmps15
    go_wp2_with (first | (go_at_call 48; refine (HF.out _ (HT.out.below (by first | exact balloc _ _ | exact (balloc _ _).drew) (Nat.le_refl _))).mono ?_; rintro e w1 ⟨rfl, hb1⟩; have HB := Lib.hid hb1; clear hb1) | fail)
    go_ret
    exact ⟨by rw [HR.out]; rfl, btrans (by first | exact balloc _ _ | exact (balloc _ _).drew) HB.out⟩
end Go.Proofs.YthdihhkadaafcaaGreatDoor.Val
end

section
/- THE WALK OF event.Print: what an event's text is. -/
namespace Go.Proofs.YthdihhkadaafcaaGreatDoor.Val
open Go.RowKit Flt
/-- an attribute's text, with a blank ahead -/
def aT (a : A) : List UInt8 := [32] ++ a.name ++ [61] ++ vT a.val
def asT (l : List A) : List UInt8 := (l.map aT).flatten
/-- an event's text -/
def evT (sc : List UInt8) (l : List A) : List UInt8 := [91] ++ sc ++ [93] ++ asT l
/-- attributes whose texts are short, and whose numbers are words -/
def Small (l : List A) : Prop := ∀ x ∈ l, x.name.length ≤ 300 ∧ x.val.text.length ≤ 300 ∧ x.val.num < 18446744073709551616 ∧ -9223372036854775808 ≤ x.val.int ∧ x.val.int ≤ 9223372036854775807
theorem asT_take (l : List A) (k : Nat) (h : k < l.length) : asT (l.take (k + 1)) = asT (l.take k) ++ aT l[k] := by
  unfold asT
  rw [List.take_succ_eq_append_getElem h, List.map_append, List.flatten_append]
  simp
theorem vT_len2 (v : V) (h0 : -9223372036854775808 ≤ v.int) (h1 : v.int ≤ 9223372036854775807) : (vT v).length ≤ 10 * v.text.length + 2000 := by
  have hi : (Lib.itoa v.int).length ≤ 100 := by
    have a := Fmt.nDigits_le20 (u := v.int.natAbs) (by omega)
    have b := Fmt.nDigits_le20 (u := v.int.toNat) (by omega)
    unfold Lib.itoa
    split
    · rw [List.length_cons, Lib.decDigits_length]; omega
    · rw [Lib.decDigits_length]; omega
  have hq : (Quo.quoteT Lib.goPrintTabs v.text).length ≤ 10 * v.text.length + 2 := by
    unfold Quo.quoteT
    rw [List.length_map]
    have h := Lib.quoteZ_length_le Lib.goPrintTabs ⟨v.text.toArray⟩
    have hs : (⟨v.text.toArray⟩ : ByteArray).size = v.text.length := by simp [ByteArray.size]
    rw [hs] at h
    exact h
  unfold vT
  split
  · omega
  · split
    · have := flt_len (Ord.canon v.num)
      unfold Fmt.fltT
      split
      · omega
      · rw [List.length_append]; simp; omega
    · split
      · omega
      · have a : yesT.length = 3 := rfl
        have b : noT.length = 2 := rfl
        split <;> omega
theorem aT_len {l : List A} (h : Small l) (x : A) (hx : x ∈ l) : (aT x).length ≤ 6000 := by
  obtain ⟨h1, h2, _, h4, h5⟩ := h x hx
  have := vT_len2 x.val h4 h5
  unfold aT
  simp only [List.length_append, List.length_cons, List.length_nil]
  omega
theorem asT_len (l : List A) (h : Small l) : (asT l).length ≤ 6000 * l.length := by
  induction l with
  | nil => simp [asT]
  | cons a l ih =>
    have h1 := aT_len h a (List.mem_cons_self ..)
    have h2 := ih (fun x hx => h x (List.mem_cons_of_mem _ hx))
    have e : asT (a :: l) = aT a ++ asT l := by simp [asT]
    rw [e, List.length_append, List.length_cons]
    omega
theorem ps_below {nm vt : List UInt8} {vk vn : Int} {vx : Nat} {vy : Bool} {wr w1 w2 : World} (hb : Below w1.heap.size w1 w2) (h : (fun w' => w'.cell? ⟨wr.heap.size, 0, none⟩ = some (.string ⟨nm.toArray⟩) ∧ w'.cell? ⟨wr.heap.size, 1, none⟩ = some (.int .i64 vk) ∧ w'.cell? ⟨wr.heap.size, 2, none⟩ = some (.int .i64 vn) ∧ w'.cell? ⟨wr.heap.size, 3, none⟩ = some (.float .f64 vx) ∧ w'.cell? ⟨wr.heap.size, 4, none⟩ = some (.string ⟨vt.toArray⟩) ∧ w'.cell? ⟨wr.heap.size, 5, none⟩ = some (.bool vy) ∧ Below wr.heap.size wr w' ∧ wr.heap.size < w'.heap.size) w1) : (fun w' => w'.cell? ⟨wr.heap.size, 0, none⟩ = some (.string ⟨nm.toArray⟩) ∧ w'.cell? ⟨wr.heap.size, 1, none⟩ = some (.int .i64 vk) ∧ w'.cell? ⟨wr.heap.size, 2, none⟩ = some (.int .i64 vn) ∧ w'.cell? ⟨wr.heap.size, 3, none⟩ = some (.float .f64 vx) ∧ w'.cell? ⟨wr.heap.size, 4, none⟩ = some (.string ⟨vt.toArray⟩) ∧ w'.cell? ⟨wr.heap.size, 5, none⟩ = some (.bool vy) ∧ Below wr.heap.size wr w' ∧ wr.heap.size < w'.heap.size) w2 := by
  obtain ⟨h0, h1, h2, h3, h4, h5, hB, hl⟩ := h
  have c : ∀ o, w2.cell? ⟨wr.heap.size, o, none⟩ = w1.cell? ⟨wr.heap.size, o, none⟩ := fun o => hb.cell (p := ⟨wr.heap.size, o, none⟩) hl
  exact ⟨by rw [c]; exact h0, by rw [c]; exact h1, by rw [c]; exact h2, by rw [c]; exact h3, by rw [c]; exact h4, by rw [c]; exact h5, btrans hB hb, Nat.lt_of_lt_of_le hl hb.size⟩
theorem ps_start {nm vt : List UInt8} {vk vn : Int} {vx : Nat} {vy : Bool} {wr : World} {T : TypeId} : (fun w' => w'.cell? ⟨wr.heap.size, 0, none⟩ = some (.string ⟨nm.toArray⟩) ∧ w'.cell? ⟨wr.heap.size, 1, none⟩ = some (.int .i64 vk) ∧ w'.cell? ⟨wr.heap.size, 2, none⟩ = some (.int .i64 vn) ∧ w'.cell? ⟨wr.heap.size, 3, none⟩ = some (.float .f64 vx) ∧ w'.cell? ⟨wr.heap.size, 4, none⟩ = some (.string ⟨vt.toArray⟩) ∧ w'.cell? ⟨wr.heap.size, 5, none⟩ = some (.bool vy) ∧ Below wr.heap.size wr w' ∧ wr.heap.size < w'.heap.size) (wr.alloc (.cells #[.string ⟨nm.toArray⟩, .int .i64 vk, .int .i64 vn, .float .f64 vx, .string ⟨vt.toArray⟩, .bool vy] T)).drew := by
  have c : ∀ o, (wr.alloc (.cells #[.string ⟨nm.toArray⟩, .int .i64 vk, .int .i64 vn, .float .f64 vx, .string ⟨vt.toArray⟩, .bool vy] T)).drew.cell? ⟨wr.heap.size, o, none⟩ = #[.string ⟨nm.toArray⟩, .int .i64 vk, .int .i64 vn, .float .f64 vx, .string ⟨vt.toArray⟩, .bool vy][o]? := fun o => World.cell?_alloc_at _ _ _ _ rfl
  exact ⟨c 0, c 1, c 2, c 3, c 4, c 5, bdrewN (balloc _ _) 1, by show wr.heap.size < (wr.alloc _).heap.size; simp⟩
theorem ps_own {nm vt : List UInt8} {vk vn : Int} {vx : Nat} {vy : Bool} {wr w1 : World} (h : (fun w' => w'.cell? ⟨wr.heap.size, 0, none⟩ = some (.string ⟨nm.toArray⟩) ∧ w'.cell? ⟨wr.heap.size, 1, none⟩ = some (.int .i64 vk) ∧ w'.cell? ⟨wr.heap.size, 2, none⟩ = some (.int .i64 vn) ∧ w'.cell? ⟨wr.heap.size, 3, none⟩ = some (.float .f64 vx) ∧ w'.cell? ⟨wr.heap.size, 4, none⟩ = some (.string ⟨vt.toArray⟩) ∧ w'.cell? ⟨wr.heap.size, 5, none⟩ = some (.bool vy) ∧ Below wr.heap.size wr w' ∧ wr.heap.size < w'.heap.size) w1) : Below wr.heap.size wr w1 := h.2.2.2.2.2.2.1
attribute [local go_sem] run_store_flt
set_option maxRecDepth 20000 in
set_option maxHeartbeats 4000000 in
theorem eprint_any (sc : List UInt8) (a0 : Option Addr) (cap : Nat) (l : List A) (w : World) (hl : Attrs w a0 l) (hlm : l.length ≤ 100) (hsm : Small l) (hsc : sc.length ≤ 100000) (hT : Tab.Tabs w) :
    Calls Tryz.prog 23 #[ev sc a0 l.length cap] w fun e w' => e = .returned (.string ⟨(evT sc l).toArray⟩) ∧ Below w.heap.size w w' := by
  obtain ⟨H, hH⟩ : ∃ H, H = [91] ++ sc ++ [93] := ⟨_, rfl⟩
  have hHl : H.length ≤ 100002 := by rw [hH]; simp; omega
  have hev : evT sc l = H ++ asT (l.take l.length) := by rw [List.take_length, hH]; rfl
  obtain ⟨y1, hy1⟩ : ∃ y, y = [91] ++ sc := ⟨_, rfl⟩
  have hy1l : y1.length = sc.length + 1 := by rw [hy1]; simp
  have r1 : ∀ w, (Op.stringOp .add ⟨#[91]⟩ ⟨sc.toArray⟩).run Tryz.prog w = .ok (.string ⟨y1.toArray⟩) w := fun w => by rw [hy1]; exact run_string_add_lists w [91] sc (by decide) (by omega)
  have r2 : ∀ w, (Op.stringOp .add ⟨y1.toArray⟩ ⟨#[93]⟩).run Tryz.prog w = .ok (.string ⟨H.toArray⟩) w := fun w => by rw [hH, ← hy1]; exact run_string_add_lists w y1 [93] (by omega) (by decide)
  have hsum : ∀ k, k ≤ l.length → (H ++ asT (l.take k)).length ≤ 800000 := fun k hk => by
    have h := asT_len (l.take k) (fun x hx => hsm x (List.mem_of_mem_take hx))
    rw [List.length_take, Nat.min_eq_left hk] at h
    rw [List.length_append]
    omega
  rw [hev]
  have HL := Lib.hid hl; have HSM := Lib.hid hsm; have HT := Lib.hid hT; have HSUM := Lib.hid hsum; have HHH := Lib.hid hH
  clear hl hsm hT hsum hH hev hHl hy1 hy1l
  go_enter Tryz.func23, Tryz.ntmps23
  go_wp2_with fail
  go_loopw [3, 13] (fun vs vi wr => ∃ k : Nat, k ≤ l.length ∧ vs = .string ⟨(H ++ asT (l.take k)).toArray⟩ ∧ vi = .int .i64 k ∧ Below w.heap.size w wr) (fun _ vi _ => l.length - (intOf vi).toNat)
  case atStart => exact ⟨0, Nat.zero_le _, by simp [asT], rfl, balloc _ _⟩
  case round =>
    obtain ⟨k, hk, rfl, rfl, hbr⟩ := hrel
    have HBR := Lib.hid hbr
    by_cases hlt : k < l.length
    · have i1 : (k : Int) < (l.length : Int) := by omega
      have i0 : (0 : Int) ≤ (k : Int) := by omega
      obtain ⟨a, rfl, v0, v1, v2, v3, v4, v5⟩ := (HL.out.below hbr) k hlt
      have hstep := asT_take l k hlt
      have hs1 := HSUM.out k (by omega)
      obtain ⟨q1, q2, q3, q4, q5⟩ := HSM.out _ (List.getElem_mem hlt)
      have hpl := vT_len2 (l[k]).val q4 q5
      have hvp : ∀ w1, Below wr.heap.size wr w1 → Calls Tryz.prog 15 #[val (l[k]).val.kind (l[k]).val.int (l[k]).val.num (l[k]).val.text (l[k]).val.yes] w1 fun e w' => e = .returned (.string ⟨(vT ⟨(l[k]).val.kind, (l[k]).val.int, (l[k]).val.num, (l[k]).val.text, (l[k]).val.yes⟩).toArray⟩) ∧ Below w1.heap.size w1 w' :=
        fun w1 hb => vprint_any _ _ _ _ _ w1 q3 q4 q5 (by omega) (HT.out.below (btrans HBR.out hb) (Nat.le_refl _))
      have haT : aT l[k] = [32] ++ (l[k]).name ++ [61] ++ vT ⟨(l[k]).val.kind, (l[k]).val.int, (l[k]).val.num, (l[k]).val.text, (l[k]).val.yes⟩ := rfl
      rw [haT] at hstep
      clear haT hbr
      have hpl2 : (vT ⟨(l[k]).val.kind, (l[k]).val.int, (l[k]).val.num, (l[k]).val.text, (l[k]).val.yes⟩).length ≤ 10 * (l[k]).val.text.length + 2000 := hpl
      clear hpl
      generalize vT ⟨(l[k]).val.kind, (l[k]).val.int, (l[k]).val.num, (l[k]).val.text, (l[k]).val.yes⟩ = pv at *
      generalize l[k] = x at *
      obtain ⟨nm, vk, vn, vx, vt, vy⟩ := x
      simp only at *
      generalize hS0 : H ++ asT (l.take k) = S0 at *
      obtain ⟨z1, hz1⟩ : ∃ z, z = [32] ++ nm := ⟨_, rfl⟩
      obtain ⟨z2, hz2⟩ : ∃ z, z = z1 ++ [61] := ⟨_, rfl⟩
      obtain ⟨z3, hz3⟩ : ∃ z, z = z2 ++ pv := ⟨_, rfl⟩
      obtain ⟨z4, hz4⟩ : ∃ z, z = S0 ++ z3 := ⟨_, rfl⟩
      have hnext : H ++ asT (l.take (k + 1)) = z4 := by rw [hstep, hz4, hz3, hz2, hz1, ← hS0]; simp
      have l1 : z1.length = nm.length + 1 := by rw [hz1]; simp
      have l2 : z2.length = z1.length + 1 := by rw [hz2]; simp
      have l3 : z3.length = z2.length + pv.length := by rw [hz3]; simp
      have t1 : ∀ w, (Op.stringOp .add ⟨#[32]⟩ ⟨nm.toArray⟩).run Tryz.prog w = .ok (.string ⟨z1.toArray⟩) w := fun w => by rw [hz1]; exact run_string_add_lists w [32] nm (by decide) (by omega)
      have t2 : ∀ w, (Op.stringOp .add ⟨z1.toArray⟩ ⟨#[61]⟩).run Tryz.prog w = .ok (.string ⟨z2.toArray⟩) w := fun w => by rw [hz2]; exact run_string_add_lists w z1 [61] (by omega) (by decide)
      have t3 : ∀ w, (Op.stringOp .add ⟨z2.toArray⟩ ⟨pv.toArray⟩).run Tryz.prog w = .ok (.string ⟨z3.toArray⟩) w := fun w => by rw [hz3]; exact run_string_add_lists w z2 pv (by omega) (by omega)
      have t4 : ∀ w, (Op.stringOp .add ⟨S0.toArray⟩ ⟨z3.toArray⟩).run Tryz.prog w = .ok (.string ⟨z4.toArray⟩) w := fun w => by rw [hz4]; exact run_string_add_lists w S0 z3 (by omega) (by omega)
      have HVP := Lib.hid hvp; have HNX := Lib.hid hnext
      clear hvp hnext hz1 hz2 hz3 hz4 l1 l2 l3 hS0 hs1 hpl2 q1 q2 q3 q4 q5 hstep
      go_wp2_with fail
      go_region_held3 (fun w' => w'.cell? ⟨wr.heap.size, 0, none⟩ = some (.string ⟨nm.toArray⟩) ∧ w'.cell? ⟨wr.heap.size, 1, none⟩ = some (.int .i64 vk) ∧ w'.cell? ⟨wr.heap.size, 2, none⟩ = some (.int .i64 vn) ∧ w'.cell? ⟨wr.heap.size, 3, none⟩ = some (.float .f64 vx) ∧ w'.cell? ⟨wr.heap.size, 4, none⟩ = some (.string ⟨vt.toArray⟩) ∧ w'.cell? ⟨wr.heap.size, 5, none⟩ = some (.bool vy) ∧ Below wr.heap.size wr w' ∧ wr.heap.size < w'.heap.size)
        (first | exact ps_start | assumption | exact ps_below (by assumption) (by assumption))
        (first | (go_at_call 15; refine (HVP.out _ (ps_own (by assumption))).mono ?_; rintro e w3 ⟨rfl, hb3⟩))
      go_goals
      go_wp2_with fail
      rename_i hheld
      exact ⟨⟨k + 1, by omega, by rw [HNX.out], by go_num, btrans HBR.out (ps_own hheld)⟩, by simp [intOf]; go_num⟩
    · have i1 : ¬ (k : Int) < (l.length : Int) := by omega
      obtain rfl : k = l.length := by omega
      go_wp2_with fail
      go_ret
      exact ⟨rfl, HBR.out⟩
end Go.Proofs.YthdihhkadaafcaaGreatDoor.Val
end

section
/- ATTRIBUTES in a row: their cells one behind the other. -/
namespace Go.Proofs.YthdihhkadaafcaaGreatDoor.Val
open Go.RowKit Flt
def cells6 (a : A) : List Value := [.string ⟨a.name.toArray⟩, .int .i64 a.val.kind, .int .i64 a.val.int, .float .f64 a.val.num, .string ⟨a.val.text.toArray⟩, .bool a.val.yes]
def flatA (l : List A) : List Value := l.flatMap cells6
theorem flatA_len (l : List A) : (flatA l).length = l.length * 6 := by
  induction l with
  | nil => rfl
  | cons v l ih => unfold flatA at *; rw [List.flatMap_cons, List.length_append, ih]; simp [cells6]; omega
theorem flatA_at : ∀ (l : List A) (i j : Nat) (hi : i < l.length), j < 6 → (flatA l)[i * 6 + j]? = (cells6 l[i])[j]?
  | v :: l, 0, j, _, hj => by
    unfold flatA; rw [List.flatMap_cons, List.getElem?_append_left (by simp [cells6]; omega)]; simp
  | v :: l, i + 1, j, hi, hj => by
    unfold flatA; rw [List.flatMap_cons, List.getElem?_append_right (by simp [cells6]; omega)]
    have e : (i + 1) * 6 + j - (cells6 v).length = i * 6 + j := by simp [cells6]; omega
    rw [e]
    exact flatA_at l i j (by simpa using hi) hj
theorem flatA_one (l : List A) : ∀ u ∈ flatA l, u.oneCell' = true := by
  intro u hu
  obtain ⟨v, _, hv⟩ := List.mem_flatMap.1 hu
  simp only [cells6, List.mem_cons, List.not_mem_nil, or_false] at hv
  rcases hv with rfl | rfl | rfl | rfl | rfl | rfl <;> rfl
theorem flatA_app (l : List A) (a : A) : flatA (l ++ [a]) = flatA l ++ flatA [a] := by simp [flatA]
theorem info_attr : (Tryz.prog.info? 42).map (fun i => (i.zero, i.size, i.bytes)) = some (some (.agg #[.string .empty, .int .i64 0, .int .i64 0, .float .f64 0, .string .empty, .bool false]), 6, 64) := by kernel_rfl
theorem liesA {w : World} {g : Nat} {l : List A} (h : ∀ j u, (flatA l)[j]? = some u → w.cell? ((⟨g, 0, none⟩ : Addr).add j) = some u) : Attrs w (some ⟨g, 0, none⟩) l := by
  intro i hi
  refine ⟨_, rfl, ?_⟩
  have k : ∀ j (hj : j < 6), w.cell? (((⟨g, 0, none⟩ : Addr).add (i * 6)).add j) = (cells6 l[i])[j]? := by
    intro j hj
    rw [Deep.add_add]
    have : (flatA l)[i * 6 + j]? = some ((cells6 l[i])[j]'(by simpa [cells6] using hj)) := by rw [flatA_at l i j hi hj]; simp
    rw [h _ _ this]; simp
  exact ⟨k 0 (by decide), k 1 (by decide), k 2 (by decide), k 3 (by decide), k 4 (by decide), k 5 (by decide)⟩
/-- what the call's own row holds, as attributes; nil too -/
theorem own_attrs {w : World} {e : TypeId} {v : Value} {l : List A} {base : Nat} (h : w.ownsRow base e 6 v l.length (flatA l)) :
    ∃ a0 cap, v = .slice a0 l.length cap ∧ Attrs w a0 l := by
  rcases h.2 with ⟨rfl, h0⟩ | ⟨g, cp, cur, rfl, hb, _⟩
  · have : l = [] := List.eq_nil_of_length_eq_zero h0
    subst this
    exact ⟨none, 0, rfl, fun i hi => absurd hi (Nat.not_lt_zero _)⟩
  · exact ⟨some ⟨g, 0, none⟩, cp, rfl, liesA (h.cells rfl)⟩
theorem new_attr (w : World) (a : A) (e : TypeId) : ∀ j u, (flatA [a])[j]? = some u → (w.alloc (.cells #[.string ⟨a.name.toArray⟩, .int .i64 a.val.kind, .int .i64 a.val.int, .float .f64 a.val.num, .string ⟨a.val.text.toArray⟩, .bool a.val.yes] e)).cell? ((⟨w.heap.size, 0, none⟩ : Addr).add j) = some u := by
  intro j u hj
  have hadd : (⟨w.heap.size, 0, none⟩ : Addr).add j = ⟨w.heap.size, j, none⟩ := by unfold Addr.add; split <;> simp_all
  rw [hadd]
  simpa [flatA, cells6, go_sem] using hj
theorem new_attr2 (w : World) (g : Nat) (hg : g = w.heap.size) (a : A) (e : TypeId) : ∀ j u, (flatA [a])[j]? = some u → (w.alloc (.cells #[.string ⟨a.name.toArray⟩, .int .i64 a.val.kind, .int .i64 a.val.int, .float .f64 a.val.num, .string ⟨a.val.text.toArray⟩, .bool a.val.yes] e)).cell? ((⟨g, 0, none⟩ : Addr).add j) = some u := by
  subst hg; exact new_attr w a e
theorem keep_blk {wr w1 w3 : World} {base : Nat} {e : TypeId} {v : Value} {n : Nat} {xs : List Value} (hown : wr.ownsRow base e 6 v n xs) (hg : w1.grownBy w3 v.ownBlock) {p : Nat} (hp : p < base) (hp2 : p < w1.heap.size) : w3.heap[p]? = w1.heap[p]? :=
  hg.block p hp2 (fun h => by have := (hown.lt p h.symm).1; omega)
def keepB (zs : List ByteArray) (l : List A) : List A := l.filter fun a => !Lib.containsS zs ⟨a.name.toArray⟩
theorem keep_succ (zs : List ByteArray) (l : List A) (k : Nat) (h : k < l.length) : keepB zs (l.take (k + 1)) = keepB zs (l.take k) ++ (if Lib.containsS zs ⟨l[k].name.toArray⟩ then [] else [l[k]]) := by
  unfold keepB
  rw [List.take_succ_eq_append_getElem h, List.filter_append]
  cases hc : Lib.containsS zs ⟨l[k].name.toArray⟩ <;> simp [hc]
theorem keep_len (zs : List ByteArray) (l : List A) (k : Nat) : (keepB zs (l.take k)).length ≤ l.length :=
  Nat.le_trans (List.length_filter_le _ _) (by rw [List.length_take]; omega)
end Go.Proofs.YthdihhkadaafcaaGreatDoor.Val
end

section
/- THE WALK OF slices.Insert at attributes, one element, onto a row of the call's own: at the end. -/
namespace Go.Proofs.YthdihhkadaafcaaGreatDoor.Val
open Go.RowKit Flt
theorem liesA_one {w : World} {b off : Nat} {a : A} (h : AAt w ⟨b, off, none⟩ a) : ∀ j u, (flatA [a])[j]? = some u → w.cell? ((⟨b, off, none⟩ : Addr).add j) = some u := by
  intro j u hj
  obtain ⟨h0, h1, h2, h3, h4, h5⟩ := h
  have hadd : (⟨b, off, none⟩ : Addr).add j = ⟨b, off + j, none⟩ := by unfold Addr.add; split <;> simp_all
  rw [hadd]
  have hjl : j < 6 := by have := (List.getElem?_eq_some_iff.1 hj).1; simpa [flatA, cells6] using this
  match j, hjl, hj with
  | 0, _, hj => simp [flatA, cells6] at hj; subst hj; exact h0
  | 1, _, hj => simp [flatA, cells6] at hj; subst hj; exact h1
  | 2, _, hj => simp [flatA, cells6] at hj; subst hj; exact h2
  | 3, _, hj => simp [flatA, cells6] at hj; subst hj; exact h3
  | 4, _, hj => simp [flatA, cells6] at hj; subst hj; exact h4
  | 5, _, hj => simp [flatA, cells6] at hj; subst hj; exact h5
set_option maxRecDepth 20000 in
set_option maxHeartbeats 4000000 in
theorem insert_end (a0 : Option Addr) (cap : Nat) (l : List A) (a : A) (b off c base : Nat) (w : World) (hown : w.ownsRow base 42 6 (.slice a0 l.length cap) l.length (flatA l)) (hba : base ≤ w.heap.size) (hlm : l.length ≤ 1000000) (ha : AAt w ⟨b, off, none⟩ a) :
    Calls Tryz.prog 56 #[.slice a0 l.length cap, .int .i64 l.length, .slice (some ⟨b, off, none⟩) 1 c] w fun e w' =>
      ∃ v', e = .returned v' ∧ w'.ownsRow base 42 6 v' (l ++ [a]).length (flatA (l ++ [a])) ∧ w.grownBy w' (Value.slice a0 l.length cap).ownBlock := by
  have OWN := Lib.hid hown
  have hlc : l.length ≤ cap := by
    rcases hown.2 with ⟨h, h0⟩ | ⟨g, cp, cur, h, _, _, hn, _⟩
    · omega
    · cases h; exact hn
  clear hown
  have HA := Lib.hid (liesA_one ha); clear ha
  obtain ⟨i0, hi, hz0, hz1, hz2⟩ := info_parts info_attr
  go_enter Tryz.func56, Tryz.ntmps56
  go_wp2_with (at_builtin; refine wpList_append_own _ rfl _ _ 35 rfl base 42 i0 (.agg #[.string .empty, .int .i64 0, .int .i64 0, .float .f64 0, .string .empty, .bool false]) 6 64 Tryz.underlying35 hi hz0 hz1 hz2 rfl (by decide) (.slice a0 l.length cap) l.length (flatA l) rfl OWN.out ⟨b, off, none⟩ 1 c (flatA [a]) rfl rfl HA.out (flatA_one _) (by unfold maxLen; omega) (by omega) hba ?_; intro v' w4 hown' hgrow3 hnil3)
  all_goals
    go_ret
    refine ⟨v', rfl, ?_, ?_⟩
    · first | exact hown' | (rw [flatA_app]; exact hown') | simpa [flatA_app] using hown'
    · first | exact hgrow3 | simpa [*] using hgrow3 | (rename_i hq; rw [← hq]; exact hgrow3) | (rename_i hq; rw [hq]; exact hgrow3)
end Go.Proofs.YthdihhkadaafcaaGreatDoor.Val
end

section
/- COPIES OF ELEMENTS OF SEVERAL CELLS INTO A ROW THAT IS KNOWN WHOLE; what an insertion leaves of a row. No walk. -/
namespace Go.Proofs.YthdihhkadaafcaaGreatDoor.Val
open Go.RowKit Flt
theorem run_copy_rowN {P : Program} (w : World) (dT sT ty elem : TypeId) (size g o dLen dCap : Nat) (a : Addr) (sLen sCap : Nat) (cur : List Value) (t : TypeId) (cs : List Value)
    (hu : P.underlying dT = some (.slice elem)) (hs : (P.info? elem).map (·.size) = some size)
    (hg : w.heap[g]? = some (.cells cur.toArray t (0, 0))) (hn : cs.length = Nat.min sLen dLen * size)
    (hsrc : ∀ j v, cs[j]? = some v → w.cell? (a.add j) = some v) (hfit : o + cs.length ≤ cur.length) (h1 : ∀ v ∈ cs, v.oneCell' = true) :
    (Builtin.copy_ #[dT, sT] ty #[.slice (some ⟨g, o, none⟩) dLen dCap, .slice (some a) sLen sCap]).run P w =
      .ok (goInt (Nat.min sLen dLen : Nat)) (w.setRow g (splice cur o cs).toArray) := by
  have hl := run_loadCells_list (P := P) w a cs hsrc
  have hst := run_storeCells_at P g o t cs 0 cur.toArray w hg (by simpa using hfit) h1
  cases hq : P.info? elem with
  | none => simp [hq] at hs
  | some i =>
    have hi : i.size = size := by simpa [hq] using hs
    simp [Builtin.copy_, run_underlying hu, Builtin.lenOf, Builtin.firstCells, sizeOf, typeInfo, hq, hi, ← hn, hl, hst, splice]
theorem splice_take {α : Type} (L : List α) (off : Nat) (cs : List α) (j : Nat) (h : j ≤ off) (ho : off ≤ L.length) : (splice L off cs).take j = L.take j := by
  unfold splice
  rw [List.take_append_of_le_length (by rw [List.length_take]; omega), List.take_take]
  congr 1; omega
theorem splice_drop {α : Type} (L : List α) (off : Nat) (cs : List α) (ho : off ≤ L.length) : (splice L off cs).drop off = cs ++ L.drop (off + cs.length) := by
  unfold splice
  exact List.drop_left' (by rw [List.length_take]; omega)
theorem flatA_split (l : List A) (i : Nat) : flatA (l.take i) ++ flatA (l.drop i) = flatA l := by
  rw [← flatA_app2, List.take_append_drop]
where flatA_app2 : ∀ {l m : List A}, flatA (l ++ m) = flatA l ++ flatA m := by intro l m; simp [flatA]
theorem flatA_apps (l m : List A) : flatA (l ++ m) = flatA l ++ flatA m := by simp [flatA]
theorem flatA_take (l : List A) (i : Nat) (hi : i ≤ l.length) : (flatA l).take (i * 6) = flatA (l.take i) := by
  rw [← flatA_split l i]
  exact List.take_left' (by rw [flatA_len, List.length_take]; congr 1; omega)
theorem flatA_drop (l : List A) (i : Nat) (hi : i ≤ l.length) : (flatA l).drop (i * 6) = flatA (l.drop i) := by
  rw [← flatA_split l i]
  exact List.drop_left' (by rw [flatA_len, List.length_take]; congr 1; omega)
/-- there is room: what stands from i on is moved, the new one laid -/
theorem row_shift (l : List A) (a : A) (i cap : Nat) (cur : List Value) (hi : i < l.length) (hroom : l.length + 1 ≤ cap) (hcur : cur.length = cap * 6) (ht : cur.take (l.length * 6) = flatA l) :
    (splice (splice cur ((i + 1) * 6) (flatA (l.drop i))) (i * 6) (flatA [a])).length = cap * 6 ∧
    (splice (splice cur ((i + 1) * 6) (flatA (l.drop i))) (i * 6) (flatA [a])).take ((l.take i ++ a :: l.drop i).length * 6) = flatA (l.take i ++ a :: l.drop i) := by
  have hdl : (flatA (l.drop i)).length = (l.length - i) * 6 := by rw [flatA_len, List.length_drop]
  have h1l : (flatA [a]).length = 6 := by rw [flatA_len]; rfl
  have e1 : (splice cur ((i + 1) * 6) (flatA (l.drop i))).length = cap * 6 := by rw [length_splice _ _ _ (by rw [hdl, hcur]; omega), hcur]
  refine ⟨by rw [length_splice _ _ _ (by rw [e1, h1l]; omega), e1], ?_⟩
  have ea : (l.take i ++ a :: l.drop i).length * 6 = i * 6 + 6 + (l.length - i) * 6 := by
    simp only [List.length_append, List.length_take, List.length_cons, List.length_drop]; omega
  rw [ea]
  have f1 := splice_take cur ((i + 1) * 6) (flatA (l.drop i)) (i * 6) (by omega) (by rw [hcur]; omega)
  have f2 : (splice cur ((i + 1) * 6) (flatA (l.drop i))).drop (i * 6 + 6) = flatA (l.drop i) ++ cur.drop ((i + 1) * 6 + (flatA (l.drop i)).length) := by
    rw [show i * 6 + 6 = (i + 1) * 6 by omega]; exact splice_drop _ _ _ (by rw [hcur]; omega)
  generalize splice cur ((i + 1) * 6) (flatA (l.drop i)) = X at *
  unfold splice
  rw [f1, h1l, f2]
  have e3 : cur.take (i * 6) = flatA (l.take i) := by
    rw [← flatA_take l i (by omega), ← ht, List.take_take]; congr 1; omega
  rw [e3, show flatA (l.take i ++ a :: l.drop i) = flatA (l.take i) ++ (flatA [a] ++ flatA (l.drop i)) by rw [flatA_apps, show a :: l.drop i = [a] ++ l.drop i from rfl, flatA_apps]]
  rw [← List.append_assoc, ← List.append_assoc, ← List.append_assoc]
  refine List.take_left' ?_
  simp only [List.length_append, hdl, h1l, flatA_len, List.length_take]
  omega
/-- there is no room: a new row -/
theorem row_grow (l : List A) (a : A) (i G : Nat) (Z : List Value) (hi : i < l.length) (hG : l.length + 1 ≤ G) (hZ : (flatA (l.take i) ++ Z).length = G * 6) :
    (splice (splice (flatA (l.take i) ++ Z) (i * 6) (flatA [a])) ((i + 1) * 6) (flatA (l.drop i))).length = G * 6 ∧
    (splice (splice (flatA (l.take i) ++ Z) (i * 6) (flatA [a])) ((i + 1) * 6) (flatA (l.drop i))).take ((l.take i ++ a :: l.drop i).length * 6) = flatA (l.take i ++ a :: l.drop i) := by
  have hdl : (flatA (l.drop i)).length = (l.length - i) * 6 := by rw [flatA_len, List.length_drop]
  have htl : (flatA (l.take i)).length = i * 6 := by rw [flatA_len, List.length_take]; congr 1; omega
  have h1l : (flatA [a]).length = 6 := by rw [flatA_len]; rfl
  have e1 : (splice (flatA (l.take i) ++ Z) (i * 6) (flatA [a])).length = G * 6 := by rw [length_splice _ _ _ (by rw [h1l, hZ]; omega), hZ]
  refine ⟨by rw [length_splice _ _ _ (by rw [e1, hdl]; omega), e1], ?_⟩
  have ea : (l.take i ++ a :: l.drop i).length * 6 = i * 6 + 6 + (l.length - i) * 6 := by
    simp only [List.length_append, List.length_take, List.length_cons, List.length_drop]; omega
  rw [ea]
  have e3 : (splice (flatA (l.take i) ++ Z) (i * 6) (flatA [a])).take ((i + 1) * 6) = flatA (l.take i) ++ flatA [a] := by
    unfold splice
    rw [← List.append_assoc]
    have e4 : (flatA (l.take i) ++ Z).take (i * 6) = flatA (l.take i) := List.take_left' htl
    rw [e4]
    refine List.take_left' ?_
    rw [List.length_append, htl, h1l]; omega
  generalize splice (flatA (l.take i) ++ Z) (i * 6) (flatA [a]) = X at *
  unfold splice
  rw [e3, show flatA (l.take i ++ a :: l.drop i) = flatA (l.take i) ++ flatA [a] ++ flatA (l.drop i) by rw [flatA_apps, show a :: l.drop i = [a] ++ l.drop i from rfl, flatA_apps, List.append_assoc]]
  rw [← List.append_assoc]
  refine List.take_left' ?_
  simp only [List.length_append, hdl, h1l, htl]
end Go.Proofs.YthdihhkadaafcaaGreatDoor.Val
end

section
/- THE WALK OF slices.Insert at attributes, one element, onto a row of the call's own: ahead of others. -/
namespace Go.Proofs.YthdihhkadaafcaaGreatDoor.Val
open Go.RowKit Flt Go.Lib
theorem overlaps_apart (w : World) (vb g n1 n2 c1 c2 o : Nat) (tA tB : TypeId) (xs ys : Array Value) (hne : vb ≠ g) (hA : w.heap[vb]? = some (.cells xs tA (0, 0))) (hB : w.heap[g]? = some (.cells ys tB (0, 0))) (hy : ys.size ≠ 0) :
    (callFunc 89 #[.slice (some ⟨vb, 0, none⟩) n1 c1, .slice (some ⟨g, o, none⟩) n2 c2]).run Tryz.prog w = .ok (.value (.bool false)) w := by
  rw [run_callFunc_extern Tryz.func89 (by kernel_rfl) (by kernel_rfl) (by kernel_rfl) (e := Extern.SlicesOverlaps.overlaps #[35, 35] #[4]) (by kernel_rfl),
    Lib.run_overlaps_apart w 35 4 42 Tryz.underlying35 6 (fun w => by kernel_rfl) ⟨vb, 0, none⟩ ⟨g, o, none⟩ n1 c1 n2 c2 hne tA tB xs.size ys.size
      (by simp [World.shape?, hA]) (by simp [World.shape?, hB]) hy (by simp [World.frozen?, hA]) (by simp [World.frozen?, hA])]
  rfl
theorem addj (b o j : Nat) : (⟨b, o, none⟩ : Addr).add j = ⟨b, o + j, none⟩ := by unfold Addr.add; split <;> simp_all
set_option maxHeartbeats 4000000 in
set_option maxRecDepth 100000 in
theorem insert_room (g cap vb vc i : Nat) (l : List A) (a : A) (cur : List Value) (tv : TypeId) (w : World) (hi : i < l.length) (hroom : l.length + 1 ≤ cap) (hc63 : cap ≤ 9223372036854775807)
    (hg : w.heap[g]? = some (.cells cur.toArray 42 (0, 0))) (hcur : cur.length = cap * 6) (ht : cur.take (l.length * 6) = flatA l) (hv : w.heap[vb]? = some (.cells (flatA [a]).toArray tv (0, 0))) (hne : vb ≠ g) :
    Calls Tryz.prog 56 #[.slice (some ⟨g, 0, none⟩) l.length cap, .int .i64 i, .slice (some ⟨vb, 0, none⟩) 1 vc] w fun e w' =>
      e = .returned (.slice (some ⟨g, 0, none⟩) (l.length + 1) cap) ∧ w' = (w.drew.setRow g (splice cur ((i + 1) * 6) (flatA (l.drop i))).toArray).setRow g (splice (splice cur ((i + 1) * 6) (flatA (l.drop i))) (i * 6) (flatA [a])).toArray := by
  have hz2 : ¬ ((i : Int) = (l.length : Int)) := by omega
  have hov : ∀ lb cb, (callFunc 89 #[.slice (some ⟨vb, 0, none⟩) 1 vc, .slice (some ⟨g, (i + 1) * 6, none⟩) lb cb]).run Tryz.prog w = .ok (.value (.bool false)) w :=
    fun lb cb => overlaps_apart w vb g 1 lb vc cb _ _ _ _ _ hne hv hg (by rw [List.size_toArray]; omega)
  have hdl : (flatA (l.drop i)).length = (l.length - i) * 6 := by rw [flatA_len, List.length_drop]
  have h1l : (flatA [a]).length = 6 := by rw [flatA_len]; rfl
  have hs6 : (Tryz.prog.info? 42).map (·.size) = some 6 := by
    obtain ⟨i0, hi, hz0, hz1, hz2⟩ := info_parts info_attr
    rw [hi]; simp [hz1]
  have hsrc : ∀ j v, (flatA (l.drop i))[j]? = some v → w.cell? ⟨g, i * 6 + j, none⟩ = some v := fun j v hj => by
    rw [cell_of_row w g _ cur.toArray _ _ hg, List.getElem?_toArray]
    rw [← flatA_drop l i (by omega), List.getElem?_drop, ← ht, List.getElem?_take] at hj
    split at hj
    · exact hj
    · cases hj
  have hcp1 : ∀ ty dc sc, (Builtin.copy_ #[35, 35] ty #[.slice (some ⟨g, (i + 1) * 6, none⟩) (l.length - i) dc, .slice (some ⟨g, i * 6, none⟩) (l.length + 1 - i) sc]).run Tryz.prog w.drew = .ok (goInt (Nat.min (l.length + 1 - i) (l.length - i) : Nat)) (w.drew.setRow g (splice cur ((i + 1) * 6) (flatA (l.drop i))).toArray) := fun ty dc sc =>
    run_copy_rowN w.drew _ _ ty 42 6 g ((i + 1) * 6) _ dc ⟨g, i * 6, none⟩ _ sc cur 42 (flatA (l.drop i)) Tryz.underlying35 hs6 hg (by rw [hdl]; congr 1; simp only [Nat.min_def]; split <;> omega)
      (fun j v hj => by rw [addj]; exact hsrc j v hj) (by rw [hdl, hcur]; omega) (flatA_one _)
  obtain ⟨X, hX⟩ : ∃ X, X = splice cur ((i + 1) * 6) (flatA (l.drop i)) := ⟨_, rfl⟩
  have hXl : X.length = cap * 6 := by rw [hX, length_splice _ _ _ (by rw [hdl, hcur]; omega), hcur]
  rw [← hX] at hcp1 ⊢
  have hcp2 : ∀ ty dc, (Builtin.copy_ #[35, 35] ty #[.slice (some ⟨g, i * 6, none⟩) (l.length + 1 - i) dc, .slice (some ⟨vb, 0, none⟩) 1 vc]).run Tryz.prog (w.drew.setRow g X.toArray) = .ok (goInt (Nat.min 1 (l.length + 1 - i) : Nat)) ((w.drew.setRow g X.toArray).setRow g (splice X (i * 6) (flatA [a])).toArray) := fun ty dc =>
    run_copy_rowN (w.drew.setRow g X.toArray) _ _ ty 42 6 g (i * 6) _ dc ⟨vb, 0, none⟩ _ vc X 42 (flatA [a]) Tryz.underlying35 hs6 (setRow_heap w.drew g _ _ _ _ hg) (by rw [h1l]; simp only [Nat.min_def]; split <;> omega)
      (fun j v hj => by
        rw [addj, cell_setRow_other _ _ _ _ hne]
        show w.cell? _ = _
        rw [cell_of_row w vb _ _ _ _ hv, List.getElem?_toArray, Nat.zero_add]; exact hj) (by rw [h1l, hXl]; omega) (flatA_one _)
  have hw1 : IntKind.i64.wrap ((i : Int) + 1) = (i : Int) + 1 := by rw [IntKind.wrap_i64]; omega
  have hb1 : (0 : Int) ≤ (i : Int) + 1 := by omega
  have htn : ((i : Int) + 1).toNat = i + 1 := by omega
  have hb3 : (i : Int) ≤ (l.length : Int) + 1 := by omega
  have hb4 : ¬ (cap = i) := by omega
  have hb5 : ¬ (cap = i + 1) := by omega
  have hin : i ≤ l.length := by omega
  clear hX hsrc hdl h1l hs6 ht hcur hXl hg hv
  go_enter Tryz.func56, Tryz.ntmps56
  go_wp2_with (simp only [hov])
  go_region_law (refine step_copy_runI rfl _ _ 35 35 rfl _ _ (by simp [Act.eval, Act.put]) (by simp [Act.eval, Act.put]) (hcp1 _ _ _) ?_)
  go_wp2_with (at_builtin; refine wpList_copy_runI _ rfl _ _ 35 35 rfl _ _ rfl rfl (hcp2 _ _) ?_)
  go_ret
  exact ⟨rfl, rfl⟩
theorem zero_attr_cells : (Value.agg #[.string .empty, .int .i64 0, .int .i64 0, .float .f64 0, .string .empty, .bool false]).cells.size = 6 := by kernel_rfl
set_option maxHeartbeats 4000000 in
set_option maxRecDepth 100000 in
theorem insert_grow (g cap vb vc i : Nat) (l : List A) (a : A) (cur : List Value) (tv : TypeId) (w : World) (hi : i < l.length) (hlm : l.length ≤ 1000000) (hnc : l.length ≤ cap) (hroom : cap < l.length + 1)
    (hg : w.heap[g]? = some (.cells cur.toArray 42 (0, 0))) (ht : cur.take (l.length * 6) = flatA l) (hv : w.heap[vb]? = some (.cells (flatA [a]).toArray tv (0, 0))) :
    Calls Tryz.prog 56 #[.slice (some ⟨g, 0, none⟩) l.length cap, .int .i64 i, .slice (some ⟨vb, 0, none⟩) 1 vc] w fun e w' =>
      ∃ (G : Nat) (Z : List Value), l.length + 1 ≤ G ∧ G ≤ maxLen ∧ (flatA (l.take i) ++ Z).length = G * 6 ∧ e = .returned (.slice (some ⟨w.heap.size, 0, none⟩) (l.length + 1) G) ∧
        w'.heap[w.heap.size]? = some (.cells (splice (splice (flatA (l.take i) ++ Z) (i * 6) (flatA [a])) ((i + 1) * 6) (flatA (l.drop i))).toArray 42 (0, 0)) ∧ Below w.heap.size w w' := by
  have hz2 : ¬ ((i : Int) = (l.length : Int)) := by omega
  have hz3 : (cap : Int) < (l.length : Int) + 1 := by omega
  obtain ⟨i0, hi0, hzz, hzs, hzb⟩ := info_parts info_attr
  have hdl : (flatA (l.drop i)).length = (l.length - i) * 6 := by rw [flatA_len, List.length_drop]
  have htl : (flatA (l.take i)).length = i * 6 := by rw [flatA_len, List.length_take]; congr 1; omega
  have h1l : (flatA [a]).length = 6 := by rw [flatA_len]; rfl
  have hs6 : (Tryz.prog.info? 42).map (·.size) = some 6 := by rw [hi0]; simp [hzs]
  have hgs : g < w.heap.size := (Array.getElem?_eq_some_iff.1 hg).1
  have hvs : vb < w.heap.size := (Array.getElem?_eq_some_iff.1 hv).1
  have hcell : ∀ j v, (flatA l)[j]? = some v → w.cell? ⟨g, j, none⟩ = some v := fun j v hj => by
    rw [cell_of_row w g _ cur.toArray _ _ hg, List.getElem?_toArray]
    rw [← ht, List.getElem?_take] at hj
    split at hj
    · exact hj
    · cases hj
  have hold : (Builtin.firstCells i0.size i (.slice (some ⟨g, 0, none⟩) i cap)).run Tryz.prog w.drew = .ok (flatA (l.take i)).toArray w.drew := by
    rw [hzs]
    exact run_firstCells_some w.drew 6 i ⟨g, 0, none⟩ i cap (flatA (l.take i)) htl (fun j v hj => by
      rw [addj, Nat.zero_add]
      refine hcell j v ?_
      rw [← flatA_take l i (by omega), List.getElem?_take] at hj
      split at hj
      · exact hj
      · cases hj)
  have hik : i + (l.length + 1 - i) = l.length + 1 := by omega
  have hkk : (l.length : Int) + 1 - (i : Int) = ((l.length + 1 - i : Nat) : Int) := by omega
  obtain ⟨G, hG⟩ : ∃ G, G = grownCap w (l.length + 1) cap 42 := ⟨_, rfl⟩
  obtain ⟨Z, hZ⟩ : ∃ Z : List Value, Z = (Builtin.zeroCells (Value.agg #[.string .empty, .int .i64 0, .int .i64 0, .float .f64 0, .string .empty, .bool false]).cells (l.length + 1 - i) ++ Builtin.zeroCells (Value.agg #[.string .empty, .int .i64 0, .int .i64 0, .float .f64 0, .string .empty, .bool false]).cells (G - (l.length + 1))).toList := ⟨_, rfl⟩
  have hrz : ∀ ty, (Builtin.append_ #[35, 3] ty #[.slice (some ⟨g, 0, none⟩) i cap, .int .i64 ((l.length : Int) + 1 - (i : Int))]).run Tryz.prog w =
      .ok (.slice (some ⟨w.heap.size, 0, none⟩) (l.length + 1) G) (w.drew.alloc (.cells (flatA (l.take i) ++ Z).toArray 42)) := fun ty => by
    have h := Lib.run_append_grow_zeros w 35 3 ty 42 i0 _ .i64 .i64 Tryz.underlying35 Tryz.underlying3 hi0 hzz (some ⟨g, 0, none⟩) i cap (flatA (l.take i)) hold (l.length + 1 - i) (by omega) (by omega) (by omega) (by omega) (by rw [hzb]; omega) (by rw [hzb, hik]; exact growslice_fits (by omega) (by omega))
    rw [hik] at h
    rw [hkk, h, hZ, hG]
    congr 3
    apply Array.toList_inj.1
    simp
  have hGn : l.length + 1 ≤ G := by rw [hG]; exact grownCap_ge w _ _ _
  have hGm : G ≤ maxLen := by rw [hG]; exact grownCap_le_maxLen w (l.length + 1) cap 42 (by unfold maxLen; omega)
  have hG63 : G ≤ 9223372036854775807 := by have := hGm; unfold maxLen at this; omega
  have hZl : (flatA (l.take i) ++ Z).length = G * 6 := by
    rw [List.length_append, htl, hZ, Array.length_toList, Array.size_append, size_zeroCells, size_zeroCells, zero_attr_cells]
    omega
  clear hZ hG
  obtain ⟨R, hR⟩ : ∃ R, R = flatA (l.take i) ++ Z := ⟨_, rfl⟩
  rw [← hR] at hrz hZl
  obtain ⟨W1, hW1⟩ : ∃ W1, W1 = w.drew.alloc (.cells R.toArray 42) := ⟨_, rfl⟩
  have hW1g : W1.heap[w.heap.size]? = some (.cells R.toArray 42 (0, 0)) := by rw [hW1]; exact heap_alloc_new w.drew _
  have hO : ∀ b j, b < w.heap.size → W1.cell? ⟨b, j, none⟩ = w.cell? ⟨b, j, none⟩ := fun b j h => by rw [hW1, World.cell?_alloc_past (w := w.drew) _ b j h]; rfl
  have hb1 : Below w.heap.size w W1 := by rw [hW1]; exact ((Below.refl w.heap.size w).drew).alloc (Nat.le_refl _) _
  rw [← hW1] at hrz
  have hcpA : ∀ (W : World), W.heap = W1.heap → ∀ ty dc, (Builtin.copy_ #[35, 35] ty #[.slice (some ⟨w.heap.size, i * 6, none⟩) (l.length + 1 - i) dc, .slice (some ⟨vb, 0, none⟩) 1 vc]).run Tryz.prog W = .ok (goInt (Nat.min 1 (l.length + 1 - i) : Nat)) (W.setRow w.heap.size (splice R (i * 6) (flatA [a])).toArray) := fun W hWh ty dc =>
    run_copy_rowN W _ _ ty 42 6 w.heap.size (i * 6) _ dc ⟨vb, 0, none⟩ _ vc R 42 (flatA [a]) Tryz.underlying35 hs6 (by rw [hWh]; exact hW1g) (by rw [h1l]; simp only [Nat.min_def]; split <;> omega)
      (fun j v hj => by
        rw [addj, show W.cell? ⟨vb, 0 + j, none⟩ = W1.cell? ⟨vb, 0 + j, none⟩ by simp [World.cell?, hWh], hO _ _ hvs]
        rw [cell_of_row w vb _ _ _ _ hv, List.getElem?_toArray, Nat.zero_add]; exact hj) (by rw [h1l, hZl]; omega) (flatA_one _)
  obtain ⟨X, hX⟩ : ∃ X, X = splice R (i * 6) (flatA [a]) := ⟨_, rfl⟩
  have hXl : X.length = G * 6 := by rw [hX, length_splice _ _ _ (by rw [h1l, hZl]; omega), hZl]
  rw [← hX] at hcpA
  have hcpB : ∀ (W : World), W.heap = (W1.setRow w.heap.size X.toArray).heap → ∀ ty dc sc, (Builtin.copy_ #[35, 35] ty #[.slice (some ⟨w.heap.size, (i + 1) * 6, none⟩) (l.length - i) dc, .slice (some ⟨g, i * 6, none⟩) (l.length - i) sc]).run Tryz.prog W = .ok (goInt (Nat.min (l.length - i) (l.length - i) : Nat)) (W.setRow w.heap.size (splice X ((i + 1) * 6) (flatA (l.drop i))).toArray) := fun W hWh ty dc sc =>
    run_copy_rowN W _ _ ty 42 6 w.heap.size ((i + 1) * 6) _ dc ⟨g, i * 6, none⟩ _ sc X 42 (flatA (l.drop i)) Tryz.underlying35 hs6 (by rw [hWh]; exact setRow_heap W1 _ _ _ _ _ hW1g) (by rw [hdl]; congr 1; simp only [Nat.min_def]; split <;> omega)
      (fun j v hj => by
        rw [addj, show W.cell? ⟨g, i * 6 + j, none⟩ = (W1.setRow w.heap.size X.toArray).cell? ⟨g, i * 6 + j, none⟩ by simp [World.cell?, hWh], cell_setRow_other _ _ _ _ (by show g ≠ w.heap.size; omega), hO _ _ hgs]
        refine hcell _ v ?_
        rwa [← flatA_drop l i (by omega), List.getElem?_drop] at hj) (by rw [hdl, hXl]; omega) (flatA_one _)
  have hfin : ∀ (W : World), W.heap = (W1.setRow w.heap.size X.toArray).heap → (W.setRow w.heap.size (splice X ((i + 1) * 6) (flatA (l.drop i))).toArray).heap[w.heap.size]? = some (.cells (splice X ((i + 1) * 6) (flatA (l.drop i))).toArray 42 (0, 0)) := fun W hWh =>
    setRow_heap W _ _ _ _ _ (by rw [hWh]; exact setRow_heap W1 _ _ _ _ _ hW1g)
  have hbf : ∀ (W : World), Below w.heap.size w W → Below w.heap.size w (W.setRow w.heap.size (splice X ((i + 1) * 6) (flatA (l.drop i))).toArray) := fun W h => below_setRow h (Nat.le_refl _) _
  have hbX : Below w.heap.size w (W1.setRow w.heap.size X.toArray) := below_setRow hb1 (Nat.le_refl _) _
  have hw1 : IntKind.i64.wrap ((i : Int) + 1) = (i : Int) + 1 := by rw [IntKind.wrap_i64]; omega
  have hp1 : (0 : Int) ≤ (i : Int) + 1 := by omega
  have htn : ((i : Int) + 1).toNat = i + 1 := by omega
  have hb3 : (i : Int) ≤ (l.length : Int) := by omega
  have hGi : ¬ (G = i) := by omega
  have hGim : ¬ (G = i + 1) := by omega
  have hci : ¬ (cap = i) := by omega
  have hin : i ≤ l.length := by omega
  have HX := Lib.hid hX; have HR := Lib.hid hR; have HZL := Lib.hid hZl; have HFIN := Lib.hid hfin; have HBF := Lib.hid hbf; have HBX := Lib.hid hbX
  clear hX hR hZl hfin hbf hbX hkk hik hold hcell hdl htl h1l hs6 ht hXl hg hv hO hb1 hW1g
  subst hW1
  go_enter Tryz.func56, Tryz.ntmps56
  go_wp2_with (first
    | (at_builtin; refine Lib.wpList_append_run _ rfl _ _ _ _ rfl _ _ rfl rfl _ _ (hrz _) ?_)
    | (with_reducible refine wpList_copy_runI _ rfl (.tmp 43) (.tmp 44) 35 35 rfl _ _ rfl rfl (hcpA _ (by with_unfolding_all rfl) _ _) ?_))
  go_region_law (refine step_copy_runI rfl _ _ 35 35 rfl _ _ (by simp [Act.eval, Act.put]) (by simp [Act.eval, Act.put]) (hcpB ((w.alloc (.cells R.toArray 42)).drew.setRow w.heap.size X.toArray).drew rfl 3 (G - (i + 1)) (cap - i)) ?_)
  go_wp2
  go_ret
  refine ⟨G, Z, by omega, hGm, by rw [← HR.out]; exact HZL.out, rfl, ?_, ?_⟩
  · rw [← HR.out, ← HX.out]; exact HFIN.out _ rfl
  · exact HBF.out _ HBX.out.drew
theorem grown_of_below {w w' : World} (h : Below w.heap.size w w') (row : Option Nat) : w.grownBy w' row := by
  obtain ⟨h1, h2, h3, h4, h5⟩ := h
  exact ⟨h1, h2, h3, h4, fun k hk _ => h5 k hk⟩
theorem insert_any (a0 : Option Addr) (cap : Nat) (l : List A) (a : A) (i vb vc base : Nat) (tv : TypeId) (w : World) (hown : w.ownsRow base 42 6 (.slice a0 l.length cap) l.length (flatA l)) (hba : base ≤ w.heap.size) (hlm : l.length ≤ 1000000) (hi : i ≤ l.length)
    (hv : w.heap[vb]? = some (.cells (flatA [a]).toArray tv (0, 0))) (hne : (Value.slice a0 l.length cap).ownBlock ≠ some vb) :
    Calls Tryz.prog 56 #[.slice a0 l.length cap, .int .i64 i, .slice (some ⟨vb, 0, none⟩) 1 vc] w fun e w' =>
      ∃ v', e = .returned v' ∧ w'.ownsRow base 42 6 v' (l.length + 1) (flatA (l.take i ++ a :: l.drop i)) ∧ w.grownBy w' (Value.slice a0 l.length cap).ownBlock := by
  by_cases hil : i = l.length
  · subst hil
    have ha : AAt w ⟨vb, 0, none⟩ a := by
      refine ⟨?_, ?_, ?_, ?_, ?_, ?_⟩ <;> (rw [cell_of_row w vb _ _ _ _ hv]; rfl)
    refine (insert_end a0 cap l a vb 0 vc base w hown hba hlm ha).mono ?_
    rintro e w' ⟨v', h1, h2, h3⟩
    refine ⟨v', h1, ?_, h3⟩
    rw [List.take_length, List.drop_length]
    simpa using h2
  · have hlt : i < l.length := by omega
    rcases hown.2 with ⟨_, h0⟩ | ⟨g, cp, cur, he, hbg, hg, hnc, hcm, hcs, htk⟩
    · omega
    · obtain ⟨rfl, _, rfl⟩ : a0 = some ⟨g, 0, none⟩ ∧ True ∧ cap = cp := by cases he; exact ⟨rfl, trivial, rfl⟩
      have hg' : w.heap[g]? = some (.cells cur.toList.toArray 42 (0, 0)) := by rw [Array.toArray_toList]; exact hg
      have hlen : (flatA (l.take i ++ a :: l.drop i)).length = (l.length + 1) * 6 := by
        rw [flatA_len]; congr 1
        simp only [List.length_append, List.length_take, List.length_cons, List.length_drop]; omega
      have htl : (l.take i ++ a :: l.drop i).length = l.length + 1 := by
        simp only [List.length_append, List.length_take, List.length_cons, List.length_drop]; omega
      by_cases hroom : l.length + 1 ≤ cap
      · obtain ⟨r1, r2⟩ := row_shift l a i cap cur.toList hlt hroom (by simpa using hcs) htk
        refine (insert_room g cap vb vc i l a cur.toList tv w hlt hroom (by unfold maxLen at hcm; omega) hg' (by simpa using hcs) htk hv (fun e => hne (by rw [e]; rfl))).mono ?_
        rintro e w' ⟨rfl, rfl⟩
        refine ⟨_, rfl, ⟨hlen, .inr ⟨g, cap, _, rfl, hbg, setRow_heap _ g _ _ _ _ (setRow_heap w.drew g _ _ _ _ hg'), hroom, hcm, ?_, ?_⟩⟩, ?_⟩
        · simpa using r1
        · rw [List.toList_toArray, ← htl]; exact r2
        · exact ⟨rfl, rfl, rfl, by simp [World.setRow], fun k _ hk => by
            have hkg : k ≠ g := fun e => hk (by rw [e]; rfl)
            rw [setRow_other _ g k _ hkg, setRow_other _ g k _ hkg]; rfl⟩
      · refine (insert_grow g cap vb vc i l a cur.toList tv w hlt hlm hnc (by omega) hg' htk hv).mono ?_
        rintro e w' ⟨G, Z, q1, q2, q3, rfl, q4, q5⟩
        obtain ⟨r1, r2⟩ := row_grow l a i G Z hlt q1 q3
        refine ⟨_, rfl, ⟨hlen, .inr ⟨w.heap.size, G, _, rfl, hba, q4, q1, q2, ?_, ?_⟩⟩, grown_of_below q5 _⟩
        · simpa using r1
        · rw [List.toList_toArray, ← htl]; exact r2
end Go.Proofs.YthdihhkadaafcaaGreatDoor.Val
end

section
/- PLAIN LAW OF Implies: what it answers, that it is sound, that it is handed on. No program in sight. -/
namespace Go.Proofs.YthdihhkadaafcaaGreatDoor.Val
open Flt
theorem cb_zero : ∀ (a b : List UInt8), Lib.compareBytes a b = 0 ↔ a = b
  | [], [] => by simp [Lib.compareBytes]
  | [], _ :: _ => by simp [Lib.compareBytes]
  | _ :: _, [] => by simp [Lib.compareBytes]
  | a :: ar, b :: bs => by
    unfold Lib.compareBytes
    by_cases h : a < b
    · rw [if_pos h]; constructor
      · intro h'; omega
      · intro h'; injection h' with h1 h2; subst h1; exact absurd h (UInt8.lt_irrefl _)
    · rw [if_neg h]
      by_cases h' : b < a
      · rw [if_pos h']; constructor
        · intro h'; omega
        · intro h2; injection h2 with h1 h3; subst h1; exact absurd h' (UInt8.lt_irrefl _)
      · rw [if_neg h', cb_zero ar bs]
        have e : a = b := by
          rw [UInt8.lt_iff_toNat_lt] at h h'
          exact UInt8.toNat_inj.1 (by omega)
        subst e; simp
theorem cb_lt : ∀ (a b c : List UInt8), (Lib.compareBytes a b < 0 → Lib.compareBytes b c < 0 → Lib.compareBytes a c < 0) ∧ (0 < Lib.compareBytes a b → 0 < Lib.compareBytes b c → 0 < Lib.compareBytes a c)
  | [], [], _ => by simp [Lib.compareBytes]
  | [], _ :: _, [] => by simp [Lib.compareBytes]
  | [], _ :: _, _ :: _ => by simp [Lib.compareBytes]
  | _ :: _, [], [] => by simp [Lib.compareBytes]
  | _ :: _, [], _ :: _ => by simp [Lib.compareBytes]
  | _ :: _, _ :: _, [] => by simp [Lib.compareBytes]
  | a :: ar, b :: bs, c :: cs => by
    have ih := cb_lt ar bs cs
    unfold Lib.compareBytes
    simp only [UInt8.lt_iff_toNat_lt]
    by_cases h1 : a.toNat < b.toNat <;> by_cases h2 : b.toNat < a.toNat <;> by_cases h3 : b.toNat < c.toNat <;> by_cases h4 : c.toNat < b.toNat <;> by_cases h5 : a.toNat < c.toNat <;> by_cases h6 : c.toNat < a.toNat <;> simp only [h1, h2, h3, h4, h5, h6, if_true, if_false] <;> first | exact ih | omega
/-- how three comparisons hang together -/
def Ord3 (p q r : Int) : Prop := (p < 0 → q ≤ 0 → r < 0) ∧ (p ≤ 0 → q < 0 → r < 0) ∧ (p = 0 → q = 0 → r = 0) ∧ (0 < p → 0 ≤ q → 0 < r) ∧ (0 ≤ p → 0 < q → 0 < r)
theorem cb_ord (a b c : List UInt8) : Ord3 (Lib.compareBytes a b) (Lib.compareBytes b c) (Lib.compareBytes a c) := by
  have h := cb_lt a b c
  have h1 := cb_zero a b
  have h2 := cb_zero b c
  unfold Ord3
  by_cases e1 : a = b
  · subst e1; rw [(cb_zero a a).2 rfl] at *; omega
  by_cases e2 : b = c
  · subst e2; rw [(cb_zero b b).2 rfl] at *; omega
  simp only [e1, iff_false] at h1
  simp only [e2, iff_false] at h2
  omega
theorem sgn_spec (a b : Int) : (sgn (decide (a < b)) (decide (b < a)) < 0 ↔ a < b) ∧ (sgn (decide (a < b)) (decide (b < a)) = 0 ↔ a = b) := by
  unfold sgn
  by_cases h : a < b
  · simp [h]; omega
  · by_cases h2 : b < a
    · simp [h, h2]; omega
    · simp [h, h2]; omega
theorem sgn_ord (a b c : Int) : Ord3 (sgn (decide (a < b)) (decide (b < a))) (sgn (decide (b < c)) (decide (c < b))) (sgn (decide (a < c)) (decide (c < a))) := by
  have h1 := sgn_spec a b
  have h2 := sgn_spec b c
  have h3 := sgn_spec a c
  unfold Ord3
  generalize sgn (decide (a < b)) (decide (b < a)) = p at *
  generalize sgn (decide (b < c)) (decide (c < b)) = q at *
  generalize sgn (decide (a < c)) (decide (c < a)) = r at *
  omega
theorem cmp_ord (x y z : V) (h1 : x.kind = y.kind) (h2 : y.kind = z.kind) (v1 : voidB x = false) (v2 : voidB y = false) (v3 : voidB z = false) : Ord3 (cmp x y) (cmp y z) (cmp x z) := by
  unfold cmp
  unfold voidB at v1 v2 v3
  rw [h1, h2] at v1; rw [h2] at v2; rw [h1, h2]
  by_cases k0 : z.kind = 0
  · simp only [k0]; exact sgn_ord _ _ _
  by_cases k1 : z.kind = 1
  · have n1 : nan x.num = false := by simpa [k1] using v1
    have n2 : nan y.num = false := by simpa [k1] using v2
    have n3 : nan z.num = false := by simpa [k1] using v3
    simp only [k1, Flt.lt, n1, n2, n3]
    exact sgn_ord _ _ _
  by_cases k2 : z.kind = 2
  · simp only [k2]; exact cb_ord _ _ _
  have e0 : (z.kind == 0) = false := by simpa using k0
  have e1 : (z.kind == 1) = false := by simpa using k1
  have e2 : (z.kind == 2) = false := by simpa using k2
  simp only [e0, e1, e2, Bool.false_eq_true, if_false]
  cases x.yes <;> cases y.yes <;> cases z.yes <;> (unfold Ord3 sgn; simp)
def relB (op n : Int) (p : Bool) : Bool :=
  if op == 7 then true else if op == 6 then p else if op == 0 then n == 0 else if op == 1 then n != 0 else if op == 2 then decide (n < 0) else if op == 3 then decide (n ≤ 0) else if op == 4 then decide (0 < n) else if op == 5 then decide (0 ≤ n) else false
theorem holds_rel (c : C) (v : V) (h : cmpOk v c.val = true) : holdsB c v = relB c.op (cmp v c.val) (v.kind == 2 && pre v.text c.val.text) := by
  unfold holdsB relB cmp1
  simp [h]
def lowB (n a b : Int) : Bool := ((b == 2 || b == 3) && (decide (n < 0) || (n == 0 && (b == 3 || a != 3)))) || (b == 1 && (decide (n < 0) || (n == 0 && a != 3)))
def uppB (n a b : Int) : Bool := ((b == 4 || b == 5) && (decide (0 < n) || (n == 0 && (b == 5 || a != 5)))) || (b == 1 && (decide (0 < n) || (n == 0 && a != 5)))
/-- the rule for two conditions on one kind, none void, neither Has -/
def ruleB (a b : C) : Bool :=
  if a.op == 0 then holdsB b a.val
  else if a.op == 1 then b.op == 1 && cmp1 a.val b.val == 0
  else if a.op == 6 then (b.op == 6 && pre a.val.text b.val.text) || (b.op == 1 && !pre b.val.text a.val.text)
  else if a.op == 2 || a.op == 3 then lowB (cmp1 a.val b.val) a.op b.op
  else uppB (cmp1 a.val b.val) a.op b.op
def impliesB (a b : C) : Bool :=
  if a.name != b.name then false
  else if cvoidB a || b.op == 7 then true
  else if a.op == 7 || cvoidB b || a.val.kind != b.val.kind then false
  else ruleB a b
theorem eight {o : Int} (h1 : 0 ≤ o) (h2 : o ≤ 7) (h : o ≠ 7) : o = 0 ∨ o = 1 ∨ o = 2 ∨ o = 3 ∨ o = 4 ∨ o = 5 ∨ o = 6 := by omega
theorem cvoid_at {c : C} (h : cvoidB c = false) (h7 : c.op ≠ 7) : voidB c.val = false := by
  unfold cvoidB at h
  have : (c.op != 7) = true := by simpa using h7
  rw [this] at h
  simp at h
  exact h.1
/-- a condition that holds and isn't Has can be held against -/
theorem holds_ok {c : C} {v : V} (h : holdsB c v = true) (h7 : c.op ≠ 7) : cmpOk v c.val = true := by
  cases hh : cmpOk v c.val
  · unfold holdsB at h; simp [hh, h7] at h
  · rfl
theorem cmpOk_parts {x y : V} (h : cmpOk x y = true) : x.kind = y.kind ∧ voidB x = false ∧ voidB y = false := by
  unfold cmpOk at h; simp at h; exact ⟨h.1.1, h.1.2, h.2⟩
theorem cmpOk_of {x y : V} (h : x.kind = y.kind) (h1 : voidB x = false) (h2 : voidB y = false) : cmpOk x y = true := by
  unfold cmpOk; simp [h, h1, h2]
theorem pre_iff (s p : List UInt8) : pre s p = true ↔ p <+: s := by unfold pre Lib.hasPrefix; exact List.isPrefixOf_iff_prefix
theorem pre_trans {s t u : List UInt8} (h1 : pre s t = true) (h2 : pre t u = true) : pre s u = true := (pre_iff _ _).2 (((pre_iff _ _).1 h2).trans ((pre_iff _ _).1 h1))
theorem cmp_text {x y : V} (hx : x.kind = 2) (h : cmp x y = 0) : x.text = y.text := by
  unfold cmp at h; simp [hx] at h; exact (cb_zero _ _).1 h
/-- THE RULE IS SOUND. -/
theorem rule_sound (a b : C) (v : V) (a0 : 0 ≤ a.op) (a7 : a.op ≤ 7) (b0 : 0 ≤ b.op) (b7 : b.op ≤ 7) (ha : a.op ≠ 7) (hb : b.op ≠ 7) (nb : cvoidB b = false) (hk : a.val.kind = b.val.kind)
    (h : ruleB a b = true) (hv : holdsB a v = true) : holdsB b v = true := by
  have ok := holds_ok hv ha
  obtain ⟨k1, v1, v2⟩ := cmpOk_parts ok
  have v3 := cvoid_at nb hb
  have ok2 := cmpOk_of (k1.trans hk) v1 v3
  have ok3 := cmpOk_of hk v2 v3
  have ho := cmp_ord v a.val b.val k1 hk v1 v2 v3
  rw [holds_rel _ _ ok2]
  rw [holds_rel _ _ ok] at hv
  unfold ruleB at h
  rw [holds_rel _ _ ok3] at h
  have hc : cmp1 a.val b.val = cmp a.val b.val := by unfold cmp1; rw [ok3]; rfl
  rw [hc] at h
  have t1 := @cmp_text v a.val
  have t2 := @cmp_text v b.val
  have p1 := @pre_trans v.text a.val.text b.val.text
  have hk2 : (b.op == 6) = true → b.val.kind = 2 := by
    intro e; unfold cvoidB at nb; rw [e] at nb; simp at nb; exact nb.2
  have hs := pre_self v.text
  unfold lowB uppB at h
  unfold Ord3 at ho
  generalize cmp v a.val = p at *
  generalize cmp a.val b.val = q at *
  generalize cmp v b.val = r at *
  rcases eight a0 a7 ha with e | e | e | e | e | e | e <;> rcases eight b0 b7 hb with f | f | f | f | f | f | f <;>
    simp [e, f, relB] at h hv hk2 ⊢ <;> (try omega)
  · rw [k1, hk, hk2]; exact ⟨rfl, by rw [t1 (by rw [k1, hk, hk2]) hv]; exact h.2⟩
  · intro hr
    have := t2 hv.1 hr
    rw [← this, hv.2] at h
    exact absurd h (by simp)
  · exact ⟨hv.1, p1 hv.2 h⟩
theorem implies_sound (a b : C) (v : V) (a0 : 0 ≤ a.op) (a7 : a.op ≤ 7) (b0 : 0 ≤ b.op) (b7 : b.op ≤ 7) (h : impliesB a b = true) (hv : holdsB a v = true) : holdsB b v = true := by
  unfold impliesB at h
  by_cases hn : a.name = b.name
  · by_cases va : cvoidB a = true
    · rw [void_holds a v va] at hv; exact absurd hv (by simp)
    · by_cases hb : b.op = 7
      · unfold holdsB; simp [hb]
      · by_cases ha : a.op = 7
        · simp [hn, va, hb, ha] at h
        · by_cases vb : cvoidB b = true
          · simp [hn, va, hb, vb] at h
          · by_cases hk : a.val.kind = b.val.kind
            · simp [hn, va, hb, ha, vb, hk] at h
              exact rule_sound a b v a0 a7 b0 b7 ha hb (by simpa using vb) hk h hv
            · simp [hn, va, hb, hk] at h
  · simp [hn] at h
theorem rule_self (a : C) (a0 : 0 ≤ a.op) (a7 : a.op ≤ 7) (ha : a.op ≠ 7) (na : cvoidB a = false) : ruleB a a = true := by
  have v := cvoid_at na ha
  have hk2 : (a.op == 6) = true → a.val.kind = 2 := by
    intro e; unfold cvoidB at na; rw [e] at na; simp at na; exact na.2
  have hs : holdsB a a.val = sideB a.op (voidB a.val) (a.val.kind == 2) := side_eq a.name a.op a.val
  unfold ruleB
  rw [hs, cmp1_self, pre_self]
  unfold lowB uppB sideB
  rcases eight a0 a7 ha with e | e | e | e | e | e | e <;> simp [e, v]
theorem implies_self (a : C) (a0 : 0 ≤ a.op) (a7 : a.op ≤ 7) : impliesB a a = true := by
  unfold impliesB
  by_cases va : cvoidB a = true
  · simp [va]
  by_cases ha : a.op = 7
  · simp [ha]
  have na : cvoidB a = false := by simpa using va
  simp [na, ha, rule_self a a0 a7 ha na]
/-- THE RULE IS HANDED ON. -/
theorem rule_trans (a b c : C) (a0 : 0 ≤ a.op) (a7 : a.op ≤ 7) (b0 : 0 ≤ b.op) (b7 : b.op ≤ 7) (c0 : 0 ≤ c.op) (c7 : c.op ≤ 7) (ha : a.op ≠ 7) (hb : b.op ≠ 7) (hc : c.op ≠ 7)
    (na : cvoidB a = false) (nb : cvoidB b = false) (nc : cvoidB c = false) (k1 : a.val.kind = b.val.kind) (k2 : b.val.kind = c.val.kind)
    (h1 : ruleB a b = true) (h2 : ruleB b c = true) : ruleB a c = true := by
  have v1 := cvoid_at na ha
  have v2 := cvoid_at nb hb
  have v3 := cvoid_at nc hc
  by_cases hz : a.op = 0
  · have e : ∀ d, ruleB a d = holdsB d a.val := fun d => by unfold ruleB; simp [hz]
    rw [e] at h1 ⊢
    exact rule_sound b c a.val b0 b7 c0 c7 hb hc nc k2 h2 h1
  have ok1 := cmpOk_of k1 v1 v2
  have ok2 := cmpOk_of k2 v2 v3
  have ok3 := cmpOk_of (k1.trans k2) v1 v3
  have ho := cmp_ord a.val b.val c.val k1 k2 v1 v2 v3
  have e1 : cmp1 a.val b.val = cmp a.val b.val := by unfold cmp1; rw [ok1]; rfl
  have e2 : cmp1 b.val c.val = cmp b.val c.val := by unfold cmp1; rw [ok2]; rfl
  have e3 : cmp1 a.val c.val = cmp a.val c.val := by unfold cmp1; rw [ok3]; rfl
  have ka : (a.op == 6) = true → a.val.kind = 2 := by
    intro e; unfold cvoidB at na; rw [e] at na; simp at na; exact na.2
  have kb : (b.op == 6) = true → b.val.kind = 2 := by
    intro e; unfold cvoidB at nb; rw [e] at nb; simp at nb; exact nb.2
  have t2 := @cmp_text b.val c.val
  have p1 := @pre_trans a.val.text b.val.text c.val.text
  have p2 := @pre_trans c.val.text a.val.text b.val.text
  unfold ruleB lowB uppB at *
  rw [e1] at h1; rw [e2] at h2; rw [e3]
  unfold Ord3 at ho
  generalize holdsB b a.val = x1 at *
  generalize holdsB c b.val = x2 at *
  generalize holdsB c a.val = x3 at *
  generalize cmp a.val b.val = p at *
  generalize cmp b.val c.val = q at *
  generalize cmp a.val c.val = r at *
  rcases eight a0 a7 ha with e | e | e | e | e | e | e <;> rcases eight b0 b7 hb with f | f | f | f | f | f | f <;> (try (simp [e, f] at h1; done)) <;> (try omega) <;>
    rcases eight c0 c7 hc with g | g | g | g | g | g | g <;> (try (simp [f, g] at h2; done)) <;>
    simp [e, f, g] at h1 h2 ka kb ⊢ <;> (try omega)
  · rw [t2 (by rw [← k1, ka]) h2] at h1; exact h1
  · cases hh : pre c.val.text a.val.text
    · rfl
    · have := p2 hh h1; rw [this] at h2; exact absurd h2 (by simp)
  · exact p1 h1 h2
theorem implies_trans (a b c : C) (a0 : 0 ≤ a.op) (a7 : a.op ≤ 7) (b0 : 0 ≤ b.op) (b7 : b.op ≤ 7) (c0 : 0 ≤ c.op) (c7 : c.op ≤ 7) (h1 : impliesB a b = true) (h2 : impliesB b c = true) : impliesB a c = true := by
  unfold impliesB at *
  by_cases n1 : a.name = b.name
  · by_cases n2 : b.name = c.name
    · by_cases va : cvoidB a = true
      · simp [n1, n2, va]
      by_cases hc : c.op = 7
      · simp [n1, n2, hc]
      have na : cvoidB a = false := by simpa using va
      by_cases hb : b.op = 7
      · have nb : cvoidB b = false := by unfold cvoidB; simp [hb]
        simp [n2, hb, nb, hc] at h2
      by_cases ha : a.op = 7
      · simp [n1, na, ha, hb] at h1
      by_cases vb : cvoidB b = true
      · simp [n1, na, vb, hb] at h1
      have nb : cvoidB b = false := by simpa using vb
      by_cases vc : cvoidB c = true
      · simp [n2, nb, vc, hc] at h2
      have nc : cvoidB c = false := by simpa using vc
      by_cases k1 : a.val.kind = b.val.kind
      · by_cases k2 : b.val.kind = c.val.kind
        · simp [n1, na, ha, hb, nb, k1] at h1
          simp [n2, nb, hb, hc, nc, k2] at h2
          simp [n1, n2, na, ha, hc, nc, k1, k2]
          exact rule_trans a b c a0 a7 b0 b7 c0 c7 ha hb hc na nb nc k1 k2 h1 h2
        · simp [n2, nb, hc, k2] at h2
      · simp [n1, na, hb, k1] at h1
    · simp [n2] at h2
  · simp [n1] at h1
end Go.Proofs.YthdihhkadaafcaaGreatDoor.Val
end

section
/- PLAIN LAW OF EVENTS: attributes that rise by their names, what the search finds among them, what New makes. No program in sight. -/
namespace Go.Proofs.YthdihhkadaafcaaGreatDoor.Val
open Flt
theorem cb_anti (a b : List UInt8) : (Lib.compareBytes a b < 0 ↔ 0 < Lib.compareBytes b a) ∧ (Lib.compareBytes a b = 0 ↔ Lib.compareBytes b a = 0) := by
  have h1 := cb_ord a b a
  have h2 := cb_ord b a b
  rw [(cb_zero a a).2 rfl] at h1
  rw [(cb_zero b b).2 rfl] at h2
  have h3 := cb_zero a b
  have h4 := cb_zero b a
  unfold Ord3 at h1 h2
  refine ⟨by omega, ?_⟩
  rw [h3, h4]; exact eq_comm
theorem cb_trans {a b c : List UInt8} (h1 : Lib.compareBytes a b < 0) (h2 : Lib.compareBytes b c < 0) : Lib.compareBytes a c < 0 := (cb_lt a b c).1 h1 h2
theorem cb_irr (a : List UInt8) : ¬ Lib.compareBytes a a < 0 := by rw [(cb_zero a a).2 rfl]; decide
/-- each name stands ahead of those behind it -/
def Rising (l : List A) : Prop := l.Pairwise fun x y => Lib.compareBytes x.name y.name < 0
def getL (l : List A) (t : List UInt8) : Option V := (l.find? fun a => a.name == t).map (·.val)
theorem getL_cons (x : A) (l : List A) (t : List UInt8) : getL (x :: l) t = if x.name = t then some x.val else getL l t := by
  unfold getL
  rw [List.find?_cons]
  by_cases h : x.name = t
  · simp [h]
  · have : (x.name == t) = false := by simpa using h
    simp [h, this]
theorem getL_none {l : List A} {t : List UInt8} (h : ∀ a ∈ l, a.name ≠ t) : getL l t = none := by
  induction l with
  | nil => rfl
  | cons x l ih => rw [getL_cons, if_neg (h x (by simp))]; exact ih fun a ha => h a (by simp [ha])
theorem getL_some {l : List A} {t : List UInt8} {v : V} (h : getL l t = some v) : ∃ a ∈ l, a.name = t ∧ a.val = v := by
  induction l with
  | nil => cases h
  | cons x l ih =>
    rw [getL_cons] at h
    by_cases e : x.name = t
    · rw [if_pos e] at h; cases h; exact ⟨x, by simp, e, rfl⟩
    · rw [if_neg e] at h
      obtain ⟨a, ha, h1, h2⟩ := ih h
      exact ⟨a, by simp [ha], h1, h2⟩
theorem name_ne {x y : A} (h : Lib.compareBytes x.name y.name < 0) : x.name ≠ y.name := fun e => by rw [e] at h; exact cb_irr _ h
theorem getL_mem {l : List A} (hr : Rising l) {a : A} (ha : a ∈ l) : getL l a.name = some a.val := by
  induction l with
  | nil => cases ha
  | cons x l ih =>
    have hp := List.pairwise_cons.1 hr
    rw [getL_cons]
    rcases List.mem_cons.1 ha with rfl | ha
    · rw [if_pos rfl]
    · rw [if_neg (name_ne (hp.1 a ha))]
      exact ih hp.2 ha
theorem rising_ext : ∀ {l m : List A}, Rising l → Rising m → (∀ t, getL l t = getL m t) → l = m
  | [], [], _, _, _ => rfl
  | [], y :: m, _, _, h => by have := h y.name; rw [getL_cons, if_pos rfl] at this; cases this
  | x :: l, [], _, _, h => by have := h x.name; rw [getL_cons, if_pos rfl] at this; cases this
  | x :: l, y :: m, hl, hm, h => by
    have hl2 := List.pairwise_cons.1 hl
    have hm2 := List.pairwise_cons.1 hm
    by_cases e : x.name = y.name
    · have hx := h x.name
      rw [getL_cons, if_pos rfl, getL_cons, if_pos e.symm] at hx
      have hv : x.val = y.val := Option.some.inj hx
      have exy : x = y := by cases x; cases y; simp_all
      subst exy
      have : l = m := rising_ext hl2.2 hm2.2 fun t => by
        by_cases ht : x.name = t
        · subst ht
          rw [getL_none fun a ha => (name_ne (hl2.1 a ha)).symm, getL_none fun a ha => (name_ne (hm2.1 a ha)).symm]
        · have := h t
          rwa [getL_cons, if_neg ht, getL_cons, if_neg ht] at this
      rw [this]
    · exfalso
      have h0 := cb_zero x.name y.name
      have ha := (cb_anti x.name y.name).1
      rcases Int.lt_trichotomy (Lib.compareBytes x.name y.name) 0 with hc | hc | hc
      · have hx := h x.name
        rw [getL_cons, if_pos rfl, getL_cons, if_neg (Ne.symm e), getL_none fun a ha => (name_ne (cb_trans hc (hm2.1 a ha))).symm] at hx
        cases hx
      · exact e (h0.1 hc)
      · have hc' := (cb_anti y.name x.name).1.2 hc
        have hx := h y.name
        rw [getL_cons, if_neg e, getL_cons, if_pos rfl, getL_none fun a ha => (name_ne (cb_trans hc' (hl2.1 a ha))).symm] at hx
        cases hx
/-- an attribute laid in its place -/
def insL (a : A) : List A → List A
  | [] => [a]
  | x :: l => if Lib.compareBytes x.name a.name < 0 then x :: insL a l else if Lib.compareBytes x.name a.name = 0 then a :: l else a :: x :: l
theorem insL_mem {a : A} : ∀ {l : List A} {y : A}, y ∈ insL a l → y = a ∨ y ∈ l
  | [], y, h => by simpa [insL] using h
  | x :: l, y, h => by
    unfold insL at h
    split at h
    · rcases List.mem_cons.1 h with rfl | h
      · simp
      · rcases insL_mem h with h | h <;> simp [h]
    · split at h
      · rcases List.mem_cons.1 h with rfl | h <;> simp [*]
      · rcases List.mem_cons.1 h with rfl | h
        · simp
        · exact Or.inr h
theorem insL_rising {a : A} : ∀ {l : List A}, Rising l → Rising (insL a l)
  | [], _ => by unfold insL Rising; simp
  | x :: l, h => by
    have hp := List.pairwise_cons.1 h
    unfold insL
    split
    · rename_i hc
      refine List.pairwise_cons.2 ⟨fun y hy => ?_, insL_rising hp.2⟩
      rcases insL_mem hy with rfl | hy
      · exact hc
      · exact hp.1 y hy
    · rename_i hc
      split
      · rename_i h0
        have e := (cb_zero _ _).1 h0
        exact List.pairwise_cons.2 ⟨fun y hy => by rw [← e]; exact hp.1 y hy, hp.2⟩
      · rename_i h0
        have hc' : Lib.compareBytes a.name x.name < 0 := (cb_anti _ _).1.2 (by omega)
        exact List.pairwise_cons.2 ⟨fun y hy => by
          rcases List.mem_cons.1 hy with rfl | hy
          · exact hc'
          · exact cb_trans hc' (hp.1 y hy), h⟩
theorem insL_get {a : A} (t : List UInt8) : ∀ {l : List A}, getL (insL a l) t = if a.name = t then some a.val else getL l t
  | [] => by unfold insL; rw [getL_cons]
  | x :: l => by
    unfold insL
    split
    · rename_i hc
      rw [getL_cons, getL_cons, insL_get t]
      by_cases h1 : x.name = t
      · have : a.name ≠ t := by subst h1; exact (name_ne hc).symm
        simp [h1, this]
      · simp [h1]
    · split
      · rename_i h0
        have e := (cb_zero _ _).1 h0
        rw [getL_cons, getL_cons, ← e]
        by_cases h1 : x.name = t <;> simp [h1]
      · rw [getL_cons]
theorem insL_len {a : A} : ∀ {l : List A}, (insL a l).length = l.length + (if (getL l a.name).isSome then 0 else 1) ∨ ¬ Rising l
  | [] => Or.inl (by simp [insL, getL])
  | x :: l => by
    by_cases hr : Rising (x :: l)
    · left
      have hp := List.pairwise_cons.1 hr
      unfold insL
      rw [getL_cons]
      split
      · rename_i hc
        rw [if_neg (name_ne hc)]
        rcases insL_len (a := a) (l := l) with h | h
        · simp only [List.length_cons, h]; omega
        · exact absurd hp.2 h
      · rename_i hc
        split
        · rename_i h0
          rw [if_pos ((cb_zero _ _).1 h0)]; simp
        · rename_i h0
          rw [if_neg (fun e => h0 ((cb_zero _ _).2 e)), getL_none]
          · simp
          · intro y hy e
            have := hp.1 y hy
            rw [e] at this
            omega
    · exact Or.inr hr
theorem insL_le (a : A) : ∀ (l : List A), (insL a l).length ≤ l.length + 1
  | [] => by simp [insL]
  | x :: l => by
    unfold insL
    split
    · simpa using insL_le a l
    · split <;> simp
/-- where the search ends among rising names -/
theorem bs_spec (l : List A) (t : List UInt8) (hr : Rising l) (i j : Nat) (hij : i ≤ j) (hj : j ≤ l.length) (h1 : ∀ k (h : k < l.length), k < i → Lib.compareBytes l[k].name t < 0) (h2 : ∀ k (h : k < l.length), j ≤ k → ¬ Lib.compareBytes l[k].name t < 0) :
    (∀ k (h : k < l.length), k < bs l t i j → Lib.compareBytes l[k].name t < 0) ∧ (∀ k (h : k < l.length), bs l t i j ≤ k → ¬ Lib.compareBytes l[k].name t < 0) := by
  have hx := List.pairwise_iff_getElem.1 hr
  rw [bs]
  split
  · rename_i hlt
    have hm : (i + j) / 2 < l.length := by omega
    rw [show l[(i + j) / 2]! = l[(i + j) / 2] from getElem!_pos l _ hm]
    split
    · rename_i hc
      refine bs_spec l t hr _ j (by omega) hj (fun k h hk => ?_) h2
      by_cases e : k = (i + j) / 2
      · subst e; exact hc
      · exact cb_trans (hx k _ h hm (by omega)) hc
    · rename_i hc
      refine bs_spec l t hr i _ (by omega) (by omega) h1 (fun k h hk hk2 => ?_)
      by_cases e : k = (i + j) / 2
      · subst e; exact hc hk2
      · exact hc (cb_trans (hx _ k hm h (by omega)) hk2)
  · exact ⟨fun k h hk => h1 k h hk, fun k h hk => h2 k h (by omega)⟩
termination_by j - i
theorem bs_at (l : List A) (t : List UInt8) (hr : Rising l) : (∀ k (h : k < l.length), k < bs l t 0 l.length → Lib.compareBytes l[k].name t < 0) ∧ (∀ k (h : k < l.length), bs l t 0 l.length ≤ k → ¬ Lib.compareBytes l[k].name t < 0) :=
  bs_spec l t hr 0 l.length (Nat.zero_le _) (Nat.le_refl _) (fun _ _ h => absurd h (Nat.not_lt_zero _)) (fun k h hk => absurd h (by omega))
theorem found_at {l : List A} {t : List UInt8} (h : foundB l t = true) : ∃ hR : bs l t 0 l.length < l.length, (l[bs l t 0 l.length]'hR).name = t := by
  unfold foundB at h
  simp only [Bool.and_eq_true, decide_eq_true_eq, beq_iff_eq] at h
  refine ⟨h.1, ?_⟩
  have := (cb_zero _ _).1 h.2
  rwa [show l[bs l t 0 l.length]! = l[bs l t 0 l.length]'h.1 from getElem!_pos l _ h.1] at this
theorem found_of {l : List A} {t : List UInt8} (hr : Rising l) {a : A} (ha : a ∈ l) (e : a.name = t) : foundB l t = true := by
  obtain ⟨k, hk, hak⟩ := List.mem_iff_getElem.1 ha
  have ⟨s1, s2⟩ := bs_at l t hr
  have hx := List.pairwise_iff_getElem.1 hr
  have hkR : bs l t 0 l.length ≤ k := by
    by_cases h : k < bs l t 0 l.length
    · have := s1 k hk h
      rw [hak, e] at this
      exact absurd this (cb_irr _)
    · omega
  have hR : bs l t 0 l.length < l.length := by omega
  have hRk : bs l t 0 l.length = k := by
    by_cases h : bs l t 0 l.length = k
    · exact h
    · have h1 := hx _ k hR hk (by omega)
      rw [hak, e] at h1
      exact absurd h1 (s2 _ hR (Nat.le_refl _))
  unfold foundB
  rw [show l[bs l t 0 l.length]! = l[bs l t 0 l.length]'hR from getElem!_pos l _ hR]
  have hn : (l[bs l t 0 l.length]'hR).name = t := by
    have : l[bs l t 0 l.length]'hR = l[k] := by congr 1
    rw [this, hak, e]
  rw [hn, (cb_zero t t).2 rfl]
  simp [hR]
/-- a name is found just if it is there, with its value -/
theorem found_get {l : List A} (hr : Rising l) (t : List UInt8) : getL l t = if foundB l t then some (l[bs l t 0 l.length]!).val else none := by
  cases hf : foundB l t
  · simp only [Bool.false_eq_true, if_false]
    refine getL_none fun a ha e => ?_
    rw [found_of hr ha e] at hf
    cases hf
  · obtain ⟨hR, hn⟩ := found_at hf
    rw [if_pos rfl, show l[bs l t 0 l.length]! = l[bs l t 0 l.length]'hR from getElem!_pos l _ hR]
    have := getL_mem hr (List.getElem_mem hR)
    rwa [hn] at this
def canonA (a : A) : A := ⟨a.name, canonV a.val⟩
/-- one round of New -/
def stepA (acc : List A) (a : A) : List A := if foundB acc a.name then acc.set (bs acc a.name 0 acc.length) (canonA a) else acc.take (bs acc a.name 0 acc.length) ++ canonA a :: acc.drop (bs acc a.name 0 acc.length)
def newB (l : List A) : List A := l.foldl stepA []
theorem ins_at (a : A) : ∀ (l : List A) (R : Nat), R ≤ l.length → (∀ k (h : k < l.length), k < R → Lib.compareBytes l[k].name a.name < 0) → (∀ k (h : k < l.length), R ≤ k → ¬ Lib.compareBytes l[k].name a.name < 0) →
    (if decide (R < l.length) && Lib.compareBytes (l[R]!).name a.name == 0 then l.set R a else l.take R ++ a :: l.drop R) = insL a l
  | [], R, hR, _, _ => by simp at hR; subst hR; simp [insL]
  | x :: l, 0, _, _, h2 => by
    have hx := h2 0 (by simp) (Nat.le_refl _)
    simp only [List.getElem_cons_zero] at hx
    unfold insL
    rw [if_neg hx]
    by_cases h0 : Lib.compareBytes x.name a.name = 0
    · simp [h0]
    · simp [h0]
  | x :: l, R + 1, hR, h1, h2 => by
    have hx := h1 0 (by simp) (by omega)
    simp only [List.getElem_cons_zero] at hx
    have ih := ins_at a l R (by simpa using hR) (fun k h hk => by have := h1 (k + 1) (by simpa using h) (by omega); simpa using this) (fun k h hk => by have := h2 (k + 1) (by simpa using h) (by omega); simpa using this)
    unfold insL
    rw [if_pos hx, ← ih]
    have e : (x :: l)[R + 1]! = l[R]! := by simp
    rw [e]
    simp only [List.length_cons, Nat.add_lt_add_iff_right]
    split <;> simp
theorem step_ins {acc : List A} (hr : Rising acc) (a : A) : stepA acc a = insL (canonA a) acc := by
  have ⟨s1, s2⟩ := bs_at acc a.name hr
  exact ins_at (canonA a) acc (bs acc a.name 0 acc.length) (bs_le _ _ _ _ (Nat.zero_le _)) s1 s2
theorem foldl_rising : ∀ (l : List A) (acc : List A), Rising acc → Rising (l.foldl stepA acc)
  | [], _, h => h
  | a :: l, acc, h => foldl_rising l _ (by rw [step_ins h]; exact insL_rising h)
theorem newB_rising (l : List A) : Rising (newB l) := foldl_rising l [] List.Pairwise.nil
/-- the last one of a name, as it is kept -/
def lastV (l : List A) (t : List UInt8) : Option V := l.foldl (fun o a => if a.name = t then some (canonV a.val) else o) none
theorem foldl_get (t : List UInt8) : ∀ (l : List A) (acc : List A), Rising acc → getL (l.foldl stepA acc) t = l.foldl (fun o a => if a.name = t then some (canonV a.val) else o) (getL acc t)
  | [], _, _ => rfl
  | a :: l, acc, h => by
    rw [List.foldl_cons, List.foldl_cons, foldl_get t l _ (by rw [step_ins h]; exact insL_rising h), step_ins h, insL_get]
    rfl
theorem newB_get (l : List A) (t : List UInt8) : getL (newB l) t = lastV l t := foldl_get t l [] List.Pairwise.nil
theorem newB_snoc (l : List A) (a : A) : newB (l ++ [a]) = stepA (newB l) a := by unfold newB; rw [List.foldl_append]; rfl
theorem lastV_snoc (l : List A) (a : A) (t : List UInt8) : lastV (l ++ [a]) t = if a.name = t then some (canonV a.val) else lastV l t := by unfold lastV; rw [List.foldl_append]; rfl
theorem stepA_le (acc : List A) (a : A) : (stepA acc a).length ≤ acc.length + 1 := by
  unfold stepA
  split
  · simp
  · simp only [List.length_append, List.length_take, List.length_cons, List.length_drop]; omega
theorem newB_len (l : List A) : (newB l).length ≤ l.length := by
  have : ∀ (l acc : List A), (l.foldl stepA acc).length ≤ acc.length + l.length := by
    intro l
    induction l with
    | nil => intro acc; simp
    | cons a l ih => intro acc; rw [List.foldl_cons]; have := ih (stepA acc a); have := stepA_le acc a; simp; omega
  unfold newB; have h := this l []; simpa using h
/-- of a name in any list the last one -/
theorem lastV_none {l : List A} {t : List UInt8} (h : ∀ a ∈ l, a.name ≠ t) : lastV l t = none := by
  unfold lastV
  have : ∀ (l : List A) (o : Option V), (∀ a ∈ l, a.name ≠ t) → l.foldl (fun o a => if a.name = t then some (canonV a.val) else o) o = o := by
    intro l
    induction l with
    | nil => intro o _; rfl
    | cons a l ih => intro o h; rw [List.foldl_cons, if_neg (h a (by simp))]; exact ih o fun b hb => h b (by simp [hb])
  exact this l none h
/-- rising attributes, as they are kept, are what New makes of them -/
theorem newB_self {l : List A} (hr : Rising l) (hc : ∀ a ∈ l, canonV a.val = a.val) : newB l = l := by
  refine rising_ext (newB_rising l) hr fun t => ?_
  rw [newB_get]
  have : ∀ (l : List A) (o : Option V), Rising l → (∀ a ∈ l, canonV a.val = a.val) → l.foldl (fun o a => if a.name = t then some (canonV a.val) else o) o = (getL l t).or o := by
    intro l
    induction l with
    | nil => intro o _ _; simp [getL]
    | cons x l ih =>
      intro o hr hc
      have hp := List.pairwise_cons.1 hr
      rw [List.foldl_cons, getL_cons, ih _ hp.2 fun a ha => hc a (by simp [ha])]
      by_cases e : x.name = t
      · rw [if_pos e, if_pos e, hc x (by simp), getL_none fun a ha => by rw [← e]; exact (name_ne (hp.1 a ha)).symm]; simp
      · rw [if_neg e, if_neg e]
  rw [show lastV l t = _ from this l none hr hc]; simp
theorem canon_twice (b : Nat) : Ord.canon (Ord.canon b) = Ord.canon b := by
  have h0 : nan 0 = false := by decide
  have h1 : nan Ord.nan0 = true := by decide
  unfold Ord.canon
  cases hn : nan b
  · cases hz : Ord.zero b
    · simp [hn, hz]
    · simp [h0]
  · simp [h1]
theorem canonV_twice (v : V) : canonV (canonV v) = canonV v := by
  unfold canonV
  rcases kind_ways v.kind with h | ⟨h, h1⟩ | ⟨h, h1, h2⟩ | ⟨h, h1, h2, h3⟩ | ⟨h, h1, h2, h3⟩ <;> simp [*, canon_twice]
theorem newB_canon (l : List A) : ∀ a ∈ newB l, canonV a.val = a.val := by
  intro a ha
  have h := getL_mem (newB_rising l) ha
  rw [newB_get] at h
  have : ∀ (t : List UInt8) (l : List A) (o : Option V) (v : V), (∀ u, o = some u → canonV u = u) → l.foldl (fun o a => if a.name = t then some (canonV a.val) else o) o = some v → canonV v = v := by
    intro t l
    induction l with
    | nil => intro o v ho h; exact ho v h
    | cons x l ih =>
      intro o v ho h
      rw [List.foldl_cons] at h
      refine ih _ v ?_ h
      intro u hu
      split at hu
      · cases hu; exact canonV_twice _
      · exact ho u hu
  exact this a.name l none a.val (fun u h => by cases h) h
theorem newB_twice (l : List A) : newB (newB l) = newB l := newB_self (newB_rising l) (newB_canon l)
theorem keepB_rising {zs : List ByteArray} {l : List A} (h : Rising l) : Rising (keepB zs l) := List.Pairwise.filter _ h
end Go.Proofs.YthdihhkadaafcaaGreatDoor.Val
end

section
/- THE WALK OF event.New. -/
namespace Go.Proofs.YthdihhkadaafcaaGreatDoor.Val
open Go.RowKit Flt
theorem grownBy_trans {a b c : World} {row : Option Nat} (h : a.grownBy b row) (k : b.grownBy c row) : a.grownBy c row :=
  ⟨k.os.trans h.os, k.tape.trans h.tape, k.output.trans h.output, Nat.le_trans h.size k.size, fun i hi hne => (k.block i (Nat.lt_of_lt_of_le hi h.size) hne).trans (h.block i hi hne)⟩
theorem flatA_set (a : A) : ∀ (l : List A) (R : Nat), R < l.length →
    ((((((flatA l).set (R * 6) (.string ⟨a.name.toArray⟩)).set (R * 6 + 1) (.int .i64 a.val.kind)).set (R * 6 + 2) (.int .i64 a.val.int)).set (R * 6 + 3) (.float .f64 a.val.num)).set (R * 6 + 4) (.string ⟨a.val.text.toArray⟩)).set (R * 6 + 5) (.bool a.val.yes) = flatA (l.set R a)
  | x :: l, 0, _ => by simp [flatA, cells6]
  | x :: l, R + 1, h => by
    have ih := flatA_set a l R (by simpa using h)
    have e : flatA (x :: l) = cells6 x ++ flatA l := by simp [flatA]
    have e2 : flatA ((x :: l).set (R + 1) a) = cells6 x ++ flatA (l.set R a) := by simp [flatA]
    rw [e, e2, ← ih]
    have hs : ∀ (ys : List Value) (j : Nat) (v : Value), (cells6 x ++ ys).set ((R + 1) * 6 + j) v = cells6 x ++ ys.set (R * 6 + j) v := fun ys j v => by
      rw [List.set_append_right _ _ (by simp [cells6]; omega)]
      congr 2
      simp [cells6]; omega
    have hs0 : ∀ (ys : List Value) (v : Value), (cells6 x ++ ys).set ((R + 1) * 6) v = cells6 x ++ ys.set (R * 6) v := fun ys v => hs ys 0 v
    rw [hs0, hs, hs, hs, hs, hs]
theorem set_row6 {w : World} {base g cap R : Nat} {l : List A} (a : A) (h : w.ownsRow base 42 6 (.slice (some ⟨g, 0, none⟩) l.length cap) l.length (flatA l)) (hR : R < l.length) :
    ((((((w.setCell ⟨g, R * 6, none⟩ (.string ⟨a.name.toArray⟩)).setCell ⟨g, R * 6 + 1, none⟩ (.int .i64 a.val.kind)).setCell ⟨g, R * 6 + 2, none⟩ (.int .i64 a.val.int)).setCell ⟨g, R * 6 + 3, none⟩ (.float .f64 a.val.num)).setCell ⟨g, R * 6 + 4, none⟩ (.string ⟨a.val.text.toArray⟩)).setCell ⟨g, R * 6 + 5, none⟩ (.bool a.val.yes)).ownsRow base 42 6 (.slice (some ⟨g, 0, none⟩) (l.set R a).length cap) (l.set R a).length (flatA (l.set R a)) ∧
    w.grownBy ((((((w.setCell ⟨g, R * 6, none⟩ (.string ⟨a.name.toArray⟩)).setCell ⟨g, R * 6 + 1, none⟩ (.int .i64 a.val.kind)).setCell ⟨g, R * 6 + 2, none⟩ (.int .i64 a.val.int)).setCell ⟨g, R * 6 + 3, none⟩ (.float .f64 a.val.num)).setCell ⟨g, R * 6 + 4, none⟩ (.string ⟨a.val.text.toArray⟩)).setCell ⟨g, R * 6 + 5, none⟩ (.bool a.val.yes)) (some g) := by
  obtain ⟨h1, g1⟩ := h.stored (R * 6) (.string ⟨a.name.toArray⟩)
  obtain ⟨h2, g2⟩ := h1.stored (R * 6 + 1) (.int .i64 a.val.kind)
  obtain ⟨h3, g3⟩ := h2.stored (R * 6 + 2) (.int .i64 a.val.int)
  obtain ⟨h4, g4⟩ := h3.stored (R * 6 + 3) (.float .f64 a.val.num)
  obtain ⟨h5, g5⟩ := h4.stored (R * 6 + 4) (.string ⟨a.val.text.toArray⟩)
  obtain ⟨h6, g6⟩ := h5.stored (R * 6 + 5) (.bool a.val.yes)
  rw [flatA_set a l R hR] at h6
  rw [List.length_set]
  exact ⟨h6, grownBy_trans (grownBy_trans (grownBy_trans (grownBy_trans (grownBy_trans g1 g2) g3) g4) g5) g6⟩
/-- five cells behind the first one of a block -/
theorem set5_from1 (w : World) (b : Nat) (v1 v2 v3 v4 v5 : Value) (h : ∀ j, j < 5 → (w.cell? ⟨b, 1 + j, none⟩).isSome = true) :
    (((((w.setCell ⟨b, 1, none⟩ v1).setCell ⟨b, 2, none⟩ v2).setCell ⟨b, 3, none⟩ v3).setCell ⟨b, 4, none⟩ v4).setCell ⟨b, 5, none⟩ v5).cell? ⟨b, 0, none⟩ = w.cell? ⟨b, 0, none⟩ ∧
    (((((w.setCell ⟨b, 1, none⟩ v1).setCell ⟨b, 2, none⟩ v2).setCell ⟨b, 3, none⟩ v3).setCell ⟨b, 4, none⟩ v4).setCell ⟨b, 5, none⟩ v5).cell? ⟨b, 1, none⟩ = some v1 ∧
    (((((w.setCell ⟨b, 1, none⟩ v1).setCell ⟨b, 2, none⟩ v2).setCell ⟨b, 3, none⟩ v3).setCell ⟨b, 4, none⟩ v4).setCell ⟨b, 5, none⟩ v5).cell? ⟨b, 2, none⟩ = some v2 ∧
    (((((w.setCell ⟨b, 1, none⟩ v1).setCell ⟨b, 2, none⟩ v2).setCell ⟨b, 3, none⟩ v3).setCell ⟨b, 4, none⟩ v4).setCell ⟨b, 5, none⟩ v5).cell? ⟨b, 3, none⟩ = some v3 ∧
    (((((w.setCell ⟨b, 1, none⟩ v1).setCell ⟨b, 2, none⟩ v2).setCell ⟨b, 3, none⟩ v3).setCell ⟨b, 4, none⟩ v4).setCell ⟨b, 5, none⟩ v5).cell? ⟨b, 4, none⟩ = some v4 ∧
    (((((w.setCell ⟨b, 1, none⟩ v1).setCell ⟨b, 2, none⟩ v2).setCell ⟨b, 3, none⟩ v3).setCell ⟨b, 4, none⟩ v4).setCell ⟨b, 5, none⟩ v5).cell? ⟨b, 5, none⟩ = some v5 ∧
    Below b w (((((w.setCell ⟨b, 1, none⟩ v1).setCell ⟨b, 2, none⟩ v2).setCell ⟨b, 3, none⟩ v3).setCell ⟨b, 4, none⟩ v4).setCell ⟨b, 5, none⟩ v5) ∧
    (((((w.setCell ⟨b, 1, none⟩ v1).setCell ⟨b, 2, none⟩ v2).setCell ⟨b, 3, none⟩ v3).setCell ⟨b, 4, none⟩ v4).setCell ⟨b, 5, none⟩ v5).heap.size = w.heap.size := by
  have e := World.cell?_setCells_in b [v1, v2, v3, v4, v5] 1 w (fun j hj => h j hj)
  have e0 := World.cell?_setCells_out b [v1, v2, v3, v4, v5] 1 w ⟨b, 0, none⟩ (fun _ _ => Or.inl (by simp))
  exact ⟨e0, e 0 (by simp), e 1 (by simp), e 2 (by simp), e 3 (by simp), e 4 (by simp),
    (((((Below.refl b w).setCell (Nat.le_refl _) _).setCell (Nat.le_refl _) _).setCell (Nat.le_refl _) _).setCell (Nat.le_refl _) _).setCell (Nat.le_refl _) _, by simp [World.setCell]⟩
/-- what the walk knows of the blocks of the call between two rounds -/
def NewAt (N : Nat) (sc : List UInt8) (v : Value) (l : List A) (W : World) : Prop :=
  W.cell? ⟨N + 1, 0, none⟩ = some (.string ⟨sc.toArray⟩) ∧ W.cell? ⟨N + 1, 1, none⟩ = some v ∧ W.frozen? ⟨N + 1, 1, none⟩ = false ∧
    (W.cell? ⟨N, 0, none⟩).isSome = true ∧ (W.cell? ⟨N, 1, none⟩).isSome = true ∧ W.frozen? ⟨N, 0, none⟩ = false ∧ W.frozen? ⟨N, 1, none⟩ = false ∧
    W.ownsRow (N + 2) 42 6 v l.length (flatA l) ∧ N + 2 ≤ W.heap.size
theorem NewAt.below_at {N B : Nat} {sc : List UInt8} {v : Value} {l : List A} {W W2 : World} (h : NewAt N sc v l W) (hb : Below B W W2) (hN : N + 2 ≤ B) (hv : ∀ k, v.ownBlock = some k → k < B) : NewAt N sc v l W2 := by
  obtain ⟨o0, o1, ofz, r0, r1, rf0, rf1, hown, hsz⟩ := h
  obtain ⟨_, _, _, hs, hk⟩ := hb
  have g1 := hk (N + 1) (by omega)
  have g0 := hk N (by omega)
  refine ⟨(World.cell?_of_block (a := ⟨N + 1, 0, none⟩) g1).trans o0, (World.cell?_of_block (a := ⟨N + 1, 1, none⟩) g1).trans o1, (World.frozen?_of_block (a := ⟨N + 1, 1, none⟩) g1).trans ofz,
    (congrArg Option.isSome (World.cell?_of_block (a := ⟨N, 0, none⟩) g0)).trans r0, (congrArg Option.isSome (World.cell?_of_block (a := ⟨N, 1, none⟩) g0)).trans r1,
    (World.frozen?_of_block (a := ⟨N, 0, none⟩) g0).trans rf0, (World.frozen?_of_block (a := ⟨N, 1, none⟩) g0).trans rf1, ⟨hown.1, ?_⟩, Nat.le_trans hsz hs⟩
  rcases hown.2 with h0 | ⟨g, c, cur, rfl, h2, h3, h4⟩
  · exact Or.inl h0
  · exact Or.inr ⟨g, c, cur, rfl, h2, (hk g (hv g rfl)).trans h3, h4⟩
theorem NewAt.below {N : Nat} {sc : List UInt8} {v : Value} {l : List A} {W W2 : World} (h : NewAt N sc v l W) (hb : Below W.heap.size W W2) : NewAt N sc v l W2 :=
  h.below_at hb h.2.2.2.2.2.2.2.2 (fun k hk => (h.2.2.2.2.2.2.2.1.lt k hk).2)
/-- what New lays of an attribute in its box -/
def BoxA (W : World) (b : Nat) (a : A) : Prop :=
  W.cell? ⟨b, 0, none⟩ = some (.string ⟨a.name.toArray⟩) ∧ W.cell? ⟨b, 1, none⟩ = some (.int .i64 a.val.kind) ∧ W.cell? ⟨b, 2, none⟩ = some (.int .i64 a.val.int) ∧ W.cell? ⟨b, 3, none⟩ = some (.float .f64 a.val.num) ∧ W.cell? ⟨b, 4, none⟩ = some (.string ⟨a.val.text.toArray⟩) ∧ W.cell? ⟨b, 5, none⟩ = some (.bool a.val.yes)
theorem BoxA.below {W W2 : World} {b : Nat} {a : A} (h : BoxA W b a) (hb : Below W.heap.size W W2) : BoxA W2 b a := by
  obtain ⟨h0, h1, h2, h3, h4, h5⟩ := h
  exact ⟨(hb.cell (World.block_lt_of_cell? _ _ h0)).trans h0, (hb.cell (World.block_lt_of_cell? _ _ h1)).trans h1, (hb.cell (World.block_lt_of_cell? _ _ h2)).trans h2, (hb.cell (World.block_lt_of_cell? _ _ h3)).trans h3, (hb.cell (World.block_lt_of_cell? _ _ h4)).trans h4, (hb.cell (World.block_lt_of_cell? _ _ h5)).trans h5⟩
theorem step_yes {acc : List A} {a : A} (h : foundB acc a.name = true) : stepA acc a = acc.set (bs acc a.name 0 acc.length) (canonA a) := by unfold stepA; rw [h]; rfl
theorem step_no {acc : List A} {a : A} (h : foundB acc a.name = false) : stepA acc a = acc.take (bs acc a.name 0 acc.length) ++ canonA a :: acc.drop (bs acc a.name 0 acc.length) := by unfold stepA; rw [h]; rfl
/-- the row's cells at one element -/
theorem own_at {w : World} {base g cap R : Nat} {l : List A} (h : w.ownsRow base 42 6 (.slice (some ⟨g, 0, none⟩) l.length cap) l.length (flatA l)) (hR : R < l.length) (j : Nat) (hj : j < 6) : ∃ u, w.cell? ⟨g, R * 6 + j, none⟩ = some u := by
  have h1 := h.cellAt (R * 6 + j) (by omega)
  rw [flatA_at l R j hR hj] at h1
  have hl : (cells6 l[R]).length = 6 := rfl
  rw [List.getElem?_eq_getElem (by omega)] at h1
  exact ⟨_, h1⟩
theorem NewAt.kept {N : Nat} {sc : List UInt8} {v v' : Value} {l l' : List A} {W W2 : World} {row : Option Nat} (h : NewAt N sc v l W) (hg : W.grownBy W2 row) (hrow : ∀ k, row = some k → N + 2 ≤ k) (hown' : W2.ownsRow (N + 2) 42 6 v' l'.length (flatA l')) :
    NewAt N sc v' l' (W2.setCell ⟨N + 1, 1, none⟩ v') := by
  obtain ⟨o0, o1, ofz, r0, r1, rf0, rf1, hown, hsz⟩ := h
  have g1 := hg.block (N + 1) (by omega) (fun e => by have := hrow _ e.symm; omega)
  have g0 := hg.block N (by omega) (fun e => by have := hrow _ e.symm; omega)
  have p1 := (World.cell?_of_block (a := ⟨N + 1, 1, none⟩) g1).trans o1
  refine ⟨(World.cell?_setCell_other _ _ _ _ (by simp)).trans ((World.cell?_of_block (a := ⟨N + 1, 0, none⟩) g1).trans o0), World.cell?_setCell_same _ _ _ p1, by rw [World.frozen?_setCell]; exact (World.frozen?_of_block (a := ⟨N + 1, 1, none⟩) g1).trans ofz,
    (congrArg Option.isSome (World.cell?_setCell_other _ _ _ _ (by simp))).trans ((congrArg Option.isSome (World.cell?_of_block (a := ⟨N, 0, none⟩) g0)).trans r0),
    (congrArg Option.isSome (World.cell?_setCell_other _ _ _ _ (by simp))).trans ((congrArg Option.isSome (World.cell?_of_block (a := ⟨N, 1, none⟩) g0)).trans r1),
    by rw [World.frozen?_setCell]; exact (World.frozen?_of_block (a := ⟨N, 0, none⟩) g0).trans rf0, by rw [World.frozen?_setCell]; exact (World.frozen?_of_block (a := ⟨N, 1, none⟩) g0).trans rf1, ?_, ?_⟩
  · exact ownsRow_setCell_below hown' (by show N + 1 < N + 2; omega) _
  · have := hg.size; simp [World.setCell]; omega
/-- a store in place: nothing but the row turns -/
theorem NewAt.same {N : Nat} {sc : List UInt8} {v : Value} {l l' : List A} {W W2 : World} {row : Option Nat} (h : NewAt N sc v l W) (hg : W.grownBy W2 row) (hrow : ∀ k, row = some k → N + 2 ≤ k) (hown' : W2.ownsRow (N + 2) 42 6 v l'.length (flatA l')) :
    NewAt N sc v l' W2 := by
  obtain ⟨o0, o1, ofz, r0, r1, rf0, rf1, hown, hsz⟩ := h
  have g1 := hg.block (N + 1) (by omega) (fun e => by have := hrow _ e.symm; omega)
  have g0 := hg.block N (by omega) (fun e => by have := hrow _ e.symm; omega)
  exact ⟨(World.cell?_of_block (a := ⟨N + 1, 0, none⟩) g1).trans o0, (World.cell?_of_block (a := ⟨N + 1, 1, none⟩) g1).trans o1, (World.frozen?_of_block (a := ⟨N + 1, 1, none⟩) g1).trans ofz,
    (congrArg Option.isSome (World.cell?_of_block (a := ⟨N, 0, none⟩) g0)).trans r0, (congrArg Option.isSome (World.cell?_of_block (a := ⟨N, 1, none⟩) g0)).trans r1,
    (World.frozen?_of_block (a := ⟨N, 0, none⟩) g0).trans rf0, (World.frozen?_of_block (a := ⟨N, 1, none⟩) g0).trans rf1, hown', Nat.le_trans hsz hg.size⟩
theorem newB_take (l : List A) (k : Nat) (h : k < l.length) : newB (l.take (k + 1)) = stepA (newB (l.take k)) l[k] := by
  rw [List.take_succ_eq_append_getElem h, newB_snoc]
attribute [local go_sem] run_store_flt
set_option maxRecDepth 20000 in
set_option maxHeartbeats 400000 in
theorem new_any (sc : List UInt8) (a0 : Option Addr) (cap : Nat) (l : List A) (w : World) (hl : Attrs w a0 l) (hlm : l.length ≤ 100000) :
    Calls Tryz.prog 21 #[.string ⟨sc.toArray⟩, .slice a0 l.length cap] w fun e w' =>
      ∃ b0 cp, e = .returned (ev sc b0 (newB l).length cp) ∧ Attrs w' b0 (newB l) ∧ w'.ownsRow w.heap.size 42 6 (.slice b0 (newB l).length cp) (newB l).length (flatA (newB l)) ∧ Below w.heap.size w w' := by
  have HL := Lib.hid hl; clear hl
  go_enter Tryz.func21, Tryz.ntmps21
  go_wp2_with fail
  go_loopw [14] (fun vi wr => ∃ (kk : Nat) (v : Value), kk ≤ l.length ∧ vi = .int .i64 kk ∧ NewAt w.heap.size sc v (newB (l.take kk)) wr ∧ Below w.heap.size w wr) (fun vi _ => l.length - (intOf vi).toNat)
  case atStart =>
    refine ⟨0, .slice none 0 0, Nat.zero_le _, rfl, ⟨?_, ?_, ?_, ?_, ?_, ?_, ?_, World.ownsRow_nil _ _ _ _, ?_⟩, by repeat (first | assumption | (with_reducible exact Below.refl _ _) | exact balloc _ _ | exact balloc2 _ _ _ | refine btrans ?_ (by assumption) | refine btrans ?_ (balloc _ _))⟩ <;> simp [go_sem]
  case round =>
    obtain ⟨kk, v, hk, rfl, hat, hbr⟩ := hrel
    have hsz := hat.2.2.2.2.2.2.2.2
    by_cases hlt : kk < l.length
    · have i1 : (kk : Int) < (l.length : Int) := by omega
      have i0' : (0 : Int) ≤ (kk : Int) := by omega
      have hks := newB_take l kk hlt
      have hnl := newB_len (l.take kk)
      rw [List.length_take] at hnl
      obtain ⟨a, rfl, v0, v1, v2, v3, v4, v5⟩ := (HL.out.below hbr) kk hlt
      have hv (w : World) := vcanon_any (l[kk]).val.kind (l[kk]).val.int (l[kk]).val.num (l[kk]).val.text (l[kk]).val.yes w
      have HKS := Lib.hid hks; have HAT := Lib.hid hat; have HV := Lib.hid hv; clear hks hat hv
      have hne : w.heap.size + 1 < wr.heap.size := by omega
      generalize newB (l.take kk) = acc at *
      generalize hcv : canonV _ = cv at HV
      have HCV := Lib.hid hcv; clear hcv
      go_wp2_with fail
      refine (HV.out _).mono ?_
      rintro e w2 ⟨rfl, hb2⟩
      have hat2 := (HAT.out.below (balloc _ _)).below hb2
      have hbr2 := btrans (btrans hbr (balloc _ _)) hb2
      have HB2 := Lib.hid hbr2; have HAT2 := Lib.hid hat2
      obtain ⟨o0, o1, ofz, r0, r1, rf0, rf1, hown, hsz2⟩ := hat2
      obtain ⟨hc2, hf2⟩ := bcell hb2
      have q0 := (hc2 wr.heap.size 0 (by simp)).trans (World.cell?_alloc_at _ _ _ _ rfl)
      have q1 := (hc2 wr.heap.size 1 (by simp)).trans (World.cell?_alloc_at _ _ _ _ rfl)
      have q2 := (hc2 wr.heap.size 2 (by simp)).trans (World.cell?_alloc_at _ _ _ _ rfl)
      have q3 := (hc2 wr.heap.size 3 (by simp)).trans (World.cell?_alloc_at _ _ _ _ rfl)
      have q4 := (hc2 wr.heap.size 4 (by simp)).trans (World.cell?_alloc_at _ _ _ _ rfl)
      have q5 := (hc2 wr.heap.size 5 (by simp)).trans (World.cell?_alloc_at _ _ _ _ rfl)
      have z1 := (hf2 wr.heap.size 1 (by simp)).trans (World.frozen?_alloc_at _ _ _ _ rfl)
      have z2 := (hf2 wr.heap.size 2 (by simp)).trans (World.frozen?_alloc_at _ _ _ _ rfl)
      have z3 := (hf2 wr.heap.size 3 (by simp)).trans (World.frozen?_alloc_at _ _ _ _ rfl)
      have z4 := (hf2 wr.heap.size 4 (by simp)).trans (World.frozen?_alloc_at _ _ _ _ rfl)
      have z5 := (hf2 wr.heap.size 5 (by simp)).trans (World.frozen?_alloc_at _ _ _ _ rfl)
      have hs2 : wr.heap.size < w2.heap.size := size1 hb2
      have n1 : ¬ (w.heap.size + 1 = wr.heap.size) := by omega
      have n2 : ¬ (wr.heap.size = w.heap.size + 1) := by omega
      obtain ⟨b0, cp, rfl, hal⟩ := own_attrs hown
      have HAL := Lib.hid hal
      have hgl : ∀ k, (Value.slice b0 acc.length cp).ownBlock = some k → k < wr.heap.size := fun k hk => (HAT.out.2.2.2.2.2.2.2.1.lt k hk).2
      have HGL := Lib.hid hgl
      clear hc2 hf2 hb2 v0 v1 v2 v3 v4 v5 r0 r1 rf0 rf1 hown hal hbr2 HAT hbr hgl
      go_wp2_with fail
      obtain ⟨e0, e1, e2, e3, e4, e5, hb3, hsz3⟩ := set5_from1 w2 wr.heap.size (.int .i64 cv.kind) (.int .i64 cv.int) (.float .f64 cv.num) (.string ⟨cv.text.toArray⟩) (.bool cv.yes) (fun j hj => by
        match j, hj with
        | 0, _ => rw [show 1 + 0 = 1 from rfl, q1]; rfl
        | 1, _ => rw [show 1 + 1 = 2 from rfl, q2]; rfl
        | 2, _ => rw [show 1 + 2 = 3 from rfl, q3]; rfl
        | 3, _ => rw [show 1 + 3 = 4 from rfl, q4]; rfl
        | 4, _ => rw [show 1 + 4 = 5 from rfl, q5]; rfl)
      have e0' := e0.trans q0
      have hbx : BoxA ((((((w2.setCell ⟨wr.heap.size, 1, none⟩ (.int .i64 cv.kind)).setCell ⟨wr.heap.size, 2, none⟩ (.int .i64 cv.int)).setCell ⟨wr.heap.size, 3, none⟩ (.float .f64 cv.num)).setCell ⟨wr.heap.size, 4, none⟩ (.string ⟨cv.text.toArray⟩)).setCell ⟨wr.heap.size, 5, none⟩ (.bool cv.yes))) wr.heap.size ⟨(l[kk]).name, cv⟩ := ⟨e0', e1, e2, e3, e4, e5⟩
      clear q0 q1 q2 q3 q4 q5 z1 z2 z3 z4 z5 e0 e1 e2 e3 e4 e5 e0' o0 o1 ofz
      generalize World.setCell _ _ _ = W3 at *
      have hat3 := HAT2.out.below_at hb3 hsz HGL.out
      have hbr3 : Below w.heap.size w W3 := HB2.out.trans (hb3.mono (by omega))
      obtain ⟨b1, cp1, hbe, hal3⟩ := own_attrs hat3.2.2.2.2.2.2.2.1
      cases hbe
      have hrl := bs_le acc (l[kk]).name 0 acc.length (Nat.zero_le _)
      have hsn : foundB acc (l[kk]).name = false → stepA acc l[kk] = acc.take (bs acc (l[kk]).name 0 acc.length) ++ canonA l[kk] :: acc.drop (bs acc (l[kk]).name 0 acc.length) := step_no
      have hsy : foundB acc (l[kk]).name = true → stepA acc l[kk] = acc.set (bs acc (l[kk]).name 0 acc.length) (canonA l[kk]) := step_yes
      have hfa : foundB acc (l[kk]).name = true → bs acc (l[kk]).name 0 acc.length < acc.length := fun h => (found_at h).1
      have hfind := find_any sc b0 cp acc (l[kk]).name W3 hal3 (by omega)
      have hca : canonA l[kk] = ⟨(l[kk]).name, cv⟩ := by rw [← HCV.out]; rfl
      rw [hca] at hsn hsy
      generalize foundB acc (l[kk]).name = F at *
      generalize bs acc (l[kk]).name 0 acc.length = R at *
      refine hfind.mono ?_
      rintro e w4 ⟨rfl, hb4⟩
      have hat4 := hat3.below hb4
      have hbx4 := hbx.below hb4
      have hbr4 := btrans hbr3 hb4
      have hs4 := hb4.size
      have HBR4 := Lib.hid hbr4; have HAT4 := Lib.hid hat4; have HSN := Lib.hid hsn; have HSY := Lib.hid hsy
      obtain ⟨o0, o1, ofz, r0, r1, rf0, rf1, hown4, hsz4⟩ := hat4
      obtain ⟨q0, q1, q2, q3, q4, q5⟩ := hbx4
      have OWN4 := Lib.hid hown4
      clear hbr3 hbr4 hat3 hb3 hb4 hal3 hbx hfind hsn hsy hca r0 r1 rf0 rf1 HAT2 HB2 HAL
      cases F
      · clear hfa
        go_wp2_with fail
        have hl5 : (acc.take R ++ (⟨(l[kk]).name, cv⟩ : A) :: acc.drop R).length = acc.length + 1 := by
          simp only [List.length_append, List.length_take, List.length_cons, List.length_drop]; omega
        have HL5 := Lib.hid hl5; clear hl5
        refine (insert_any b0 cp acc ⟨(l[kk]).name, cv⟩ R w4.heap.size 1 (w.heap.size + 2) 42 _ (OWN4.out.alloc _) (by simp; omega) (by omega) hrl (heap_alloc_new w4 _) (fun e => by have := (OWN4.out.lt _ e).2; omega)).mono ?_
        rintro e w5 ⟨v', rfl, hown5, hg5⟩
        rw [← HL5.out] at hown5
        obtain ⟨nx, hnx⟩ : ∃ nx : List A, nx = acc.take R ++ (⟨(l[kk]).name, cv⟩ : A) :: acc.drop R := ⟨_, rfl⟩
        rw [← hnx] at hown5
        have HNX := Lib.hid hnx; clear hnx HL5
        obtain ⟨b1, cp1, rfl, _⟩ := own_attrs hown5
        have hrow : ∀ k, (Value.slice b0 acc.length cp).ownBlock = some k → w.heap.size + 2 ≤ k := fun k hk => (OWN4.out.lt k hk).1
        have hk5 := (HAT4.out.below (balloc w4 (.cells #[.string ⟨(l[kk]).name.toArray⟩, .int .i64 cv.kind, .int .i64 cv.int, .float .f64 cv.num, .string ⟨cv.text.toArray⟩, .bool cv.yes] 42))).kept hg5 hrow hown5
        have g1 := hg5.block (w.heap.size + 1) (by simp; omega) (fun e => by have := hrow _ e.symm; omega)
        have p1 := (World.cell?_of_block (a := ⟨w.heap.size + 1, 1, none⟩) g1).trans ((World.cell?_alloc_past (w := w4) _ (w.heap.size + 1) 1 (by omega)).trans o1)
        have pz := (World.frozen?_of_block (a := ⟨w.heap.size + 1, 1, none⟩) g1).trans ((World.frozen?_alloc_past (w := w4) _ (w.heap.size + 1) 1 (by omega)).trans ofz)
        have hbf : Below w.heap.size w w5 := Below.grown (btrans HBR4.out (balloc _ _)) hg5 (by have := HBR4.out.size; simp; omega) (fun k hk => by have := hrow k hk; omega)
        have HK5 := Lib.hid hk5; have HBF := Lib.hid hbf; have OWN5 := Lib.hid hown5; have HG5 := Lib.hid hg5
        clear hk5 hbf hown5 hg5 g1 hrow o0 o1 ofz q0 q1 q2 q3 q4 q5
        go_wp2_with fail
        exact ⟨⟨kk + 1, _, by omega, by go_num, by rw [HKS.out, HSN.out trivial, ← HNX.out]; exact HK5.out, HBF.out.setCell (by simp) _⟩, by simp [intOf]; go_num⟩
      · have hR := hfa rfl
        clear hfa
        obtain ⟨g, cp2, hbe⟩ : ∃ g cp2, b0 = some ⟨g, 0, none⟩ ∧ cp = cp2 := by
          rcases hown4.2 with ⟨_, h0⟩ | ⟨g, c, _, he, _⟩
          · omega
          · cases he; exact ⟨g, _, rfl, rfl⟩
        obtain ⟨rfl, rfl⟩ := hbe
        obtain ⟨u0, c0⟩ := own_at hown4 hR 0 (by decide)
        obtain ⟨u1, c1⟩ := own_at hown4 hR 1 (by decide)
        obtain ⟨u2, c2⟩ := own_at hown4 hR 2 (by decide)
        obtain ⟨u3, c3⟩ := own_at hown4 hR 3 (by decide)
        obtain ⟨u4, c4⟩ := own_at hown4 hR 4 (by decide)
        obtain ⟨u5, c5⟩ := own_at hown4 hR 5 (by decide)
        rw [Nat.add_zero] at c0
        have f0 := hown4.frozenAt (R * 6)
        have f1 := hown4.frozenAt (R * 6 + 1)
        have f2 := hown4.frozenAt (R * 6 + 2)
        have f3 := hown4.frozenAt (R * 6 + 3)
        have f4 := hown4.frozenAt (R * 6 + 4)
        have f5 := hown4.frozenAt (R * 6 + 5)
        have r0 : (R : Int) < (acc.length : Int) := by omega
        obtain ⟨hst1, hst2⟩ := set_row6 ⟨(l[kk]).name, cv⟩ hown4 hR
        have HST1 := Lib.hid hst1; have HST2 := Lib.hid hst2
        clear hown4 hst1 hst2
        go_wp2_with fail
        refine ⟨⟨kk + 1, .slice (some ⟨g, 0, none⟩) acc.length cp, by omega, by go_num, ?_, ?_⟩, by simp [intOf]; go_num⟩
        · rw [HKS.out, HSY.out trivial]
          refine HAT4.out.same HST2.out (fun k e => by cases e; exact (OWN4.out.lt g rfl).1) ?_
          have h1 := HST1.out
          simp only [List.length_set] at h1 ⊢
          exact h1
        · exact Below.grown HBR4.out HST2.out HBR4.out.size (fun k e => by cases e; have := (OWN4.out.lt g rfl).1; omega)
    · have i1 : ¬ (kk : Int) < (l.length : Int) := by omega
      obtain rfl : kk = l.length := by omega
      rw [List.take_length] at hat
      obtain ⟨o0, o1, ofz, r0, r1, rf0, rf1, hown, _⟩ := hat
      obtain ⟨b0, cp, rfl, hat⟩ := own_attrs hown
      have OWN := Lib.hid hown; have HAT := Lib.hid hat; clear hown hat
      obtain ⟨u0, hu0⟩ := Option.isSome_iff_exists.1 r0
      obtain ⟨u1, hu1⟩ := Option.isSome_iff_exists.1 r1
      clear r0 r1
      go_wp2
      have e0 : ((wr.setCell ⟨w.heap.size, 0, none⟩ (.string ⟨sc.toArray⟩)).setCell ⟨w.heap.size, 1, none⟩ (.slice b0 (newB l).length cp)).cell? ⟨w.heap.size, 0, none⟩ = some (.string ⟨sc.toArray⟩) := (World.cell?_setCell_other _ _ _ _ (by simp)).trans (World.cell?_setCell_same _ _ _ hu0)
      have e1 : ((wr.setCell ⟨w.heap.size, 0, none⟩ (.string ⟨sc.toArray⟩)).setCell ⟨w.heap.size, 1, none⟩ (.slice b0 (newB l).length cp)).cell? ⟨w.heap.size, 1, none⟩ = some (.slice b0 (newB l).length cp) := World.cell?_setCell_same _ _ _ ((World.cell?_setCell_other _ _ _ _ (by simp)).trans hu1)
      have ow := ownsRow_setCell_below (a := ⟨w.heap.size, 1, none⟩) (ownsRow_setCell_below (a := ⟨w.heap.size, 0, none⟩) OWN.out (by show w.heap.size < w.heap.size + 2; omega) (.string ⟨sc.toArray⟩)) (by show w.heap.size < w.heap.size + 2; omega) (.slice b0 (newB l).length cp)
      have hbb := (hbr.setCell (p := ⟨w.heap.size, 0, none⟩) (by simp) (.string ⟨sc.toArray⟩)).setCell (p := ⟨w.heap.size, 1, none⟩) (by simp) (.slice b0 (newB l).length cp)
      generalize World.setCell _ _ _ = W2 at *
      refine bodyPost_ret (v := ev sc b0 (newB l).length cp) (by simp [results, Tryz.results21, go_sem, e0, e1]; try rfl) rfl ?_
      obtain ⟨b1, cp1, he, hat2⟩ := own_attrs ow
      cases he
      refine ⟨b0, cp, rfl, hat2, ?_, hbb⟩
      exact ⟨ow.1, ow.2.imp id (fun ⟨g, c, cur, h1, h2, h3⟩ => ⟨g, c, cur, h1, by omega, h3⟩)⟩
end Go.Proofs.YthdihhkadaafcaaGreatDoor.Val
end

section
/- THE WALK OF the fit of chapter 03's laws. -/
namespace Go.Proofs.YthdihhkadaafcaaGreatDoor.Val
open Go.RowKit Flt
attribute [local go_sem] run_store_flt
set_option maxRecDepth 20000 in
theorem of_3 (w : World) : Calls Tryz.prog 54 #[.iface 3 (.int .i64 3)] w fun e w' => e = .returned (.tuple #[val 0 3 0 [] false, .bool true]) ∧ Below w.heap.size w w' := by
  have hta : ∀ w, (Instr.typeAssert (.iface 3 (.int .i64 3)) 20 3 true).run Tryz.prog w = .ok (.tuple #[.int .i64 3, .bool true]) w := fun _ => by kernel_rfl
  go_enter Tryz.func54, Tryz.ntmps54
  go_wp2_with fail
  go_returns
  exact ⟨rfl, by repeat (first | assumption | (with_reducible exact Below.refl _ _) | exact balloc _ _ | exact balloc2 _ _ _ | refine btrans ?_ (by assumption) | refine btrans ?_ (balloc _ _))⟩
/-- what the region of Print holds of the world: an attribute's box -/
theorem box_below {b : Nat} {v0 v1 v2 v3 v4 v5 : Value} {w w1 w2 : World} (hb : Below w1.heap.size w1 w2)
    (h : w1.cell? ⟨b, 0, none⟩ = some v0 ∧ w1.cell? ⟨b, 1, none⟩ = some v1 ∧ w1.cell? ⟨b, 2, none⟩ = some v2 ∧ w1.cell? ⟨b, 3, none⟩ = some v3 ∧ w1.cell? ⟨b, 4, none⟩ = some v4 ∧ w1.cell? ⟨b, 5, none⟩ = some v5 ∧ Below w.heap.size w w1 ∧ b < w1.heap.size) :
    w2.cell? ⟨b, 0, none⟩ = some v0 ∧ w2.cell? ⟨b, 1, none⟩ = some v1 ∧ w2.cell? ⟨b, 2, none⟩ = some v2 ∧ w2.cell? ⟨b, 3, none⟩ = some v3 ∧ w2.cell? ⟨b, 4, none⟩ = some v4 ∧ w2.cell? ⟨b, 5, none⟩ = some v5 ∧ Below w.heap.size w w2 ∧ b < w2.heap.size := by
  obtain ⟨h0, h1, h2, h3, h4, h5, hB, hl⟩ := h
  have c : ∀ o, w2.cell? ⟨b, o, none⟩ = w1.cell? ⟨b, o, none⟩ := fun o => hb.cell (p := ⟨b, o, none⟩) hl
  exact ⟨by rw [c]; exact h0, by rw [c]; exact h1, by rw [c]; exact h2, by rw [c]; exact h3, by rw [c]; exact h4, by rw [c]; exact h5, btrans hB hb, Nat.lt_of_lt_of_le hl hb.size⟩
theorem box_start {v0 v1 v2 v3 v4 v5 : Value} {T : TypeId} {w wr : World} (hw : Below w.heap.size w wr) :
    (wr.alloc (.cells #[v0, v1, v2, v3, v4, v5] T)).drew.cell? ⟨wr.heap.size, 0, none⟩ = some v0 ∧ (wr.alloc (.cells #[v0, v1, v2, v3, v4, v5] T)).drew.cell? ⟨wr.heap.size, 1, none⟩ = some v1 ∧ (wr.alloc (.cells #[v0, v1, v2, v3, v4, v5] T)).drew.cell? ⟨wr.heap.size, 2, none⟩ = some v2 ∧ (wr.alloc (.cells #[v0, v1, v2, v3, v4, v5] T)).drew.cell? ⟨wr.heap.size, 3, none⟩ = some v3 ∧ (wr.alloc (.cells #[v0, v1, v2, v3, v4, v5] T)).drew.cell? ⟨wr.heap.size, 4, none⟩ = some v4 ∧ (wr.alloc (.cells #[v0, v1, v2, v3, v4, v5] T)).drew.cell? ⟨wr.heap.size, 5, none⟩ = some v5 ∧
    Below w.heap.size w (wr.alloc (.cells #[v0, v1, v2, v3, v4, v5] T)).drew ∧ wr.heap.size < (wr.alloc (.cells #[v0, v1, v2, v3, v4, v5] T)).drew.heap.size := by
  have c : ∀ o, (wr.alloc (.cells #[v0, v1, v2, v3, v4, v5] T)).cell? ⟨wr.heap.size, o, none⟩ = #[v0, v1, v2, v3, v4, v5][o]? := fun o => World.cell?_alloc_at _ _ _ _ rfl
  exact ⟨c 0, c 1, c 2, c 3, c 4, c 5, bdrewN (btrans hw (balloc _ _)) 1, by show wr.heap.size < (wr.alloc _).heap.size; simp⟩
theorem box_own {b : Nat} {v0 v1 v2 v3 v4 v5 : Value} {w w1 : World}
    (h : w1.cell? ⟨b, 0, none⟩ = some v0 ∧ w1.cell? ⟨b, 1, none⟩ = some v1 ∧ w1.cell? ⟨b, 2, none⟩ = some v2 ∧ w1.cell? ⟨b, 3, none⟩ = some v3 ∧ w1.cell? ⟨b, 4, none⟩ = some v4 ∧ w1.cell? ⟨b, 5, none⟩ = some v5 ∧ Below w.heap.size w w1 ∧ b < w1.heap.size) : Below w.heap.size w w1 := h.2.2.2.2.2.2.1
set_option maxHeartbeats 400000 in
theorem eprint_fit (a0 : Option Addr) (cap : Nat) (w : World) (h : Attrs w a0 [⟨[120], 0, 3, 0, [], false⟩]) :
    Calls Tryz.prog 23 #[ev [97] a0 1 cap] w fun e w' => e = .returned (.string ⟨#[91, 97, 93, 32, 120, 61, 51]⟩) ∧ Below w.heap.size w w' := by
  have H := Lib.hid h; clear h
  have r1 : ∀ w, (Op.stringOp .add ⟨#[91]⟩ ⟨#[97]⟩).run Tryz.prog w = .ok (.string ⟨#[91, 97]⟩) w := fun w => run_string_add_lists w [91] [97] (by simp) (by simp)
  have r2 : ∀ w, (Op.stringOp .add ⟨#[91, 97]⟩ ⟨#[93]⟩).run Tryz.prog w = .ok (.string ⟨#[91, 97, 93]⟩) w := fun w => run_string_add_lists w [91, 97] [93] (by simp) (by simp)
  have r3 : ∀ w, (Op.stringOp .add ⟨#[32]⟩ ⟨#[120]⟩).run Tryz.prog w = .ok (.string ⟨#[32, 120]⟩) w := fun w => run_string_add_lists w [32] [120] (by simp) (by simp)
  have r4 : ∀ w, (Op.stringOp .add ⟨#[32, 120]⟩ ⟨#[61]⟩).run Tryz.prog w = .ok (.string ⟨#[32, 120, 61]⟩) w := fun w => run_string_add_lists w [32, 120] [61] (by simp) (by simp)
  have r5 : ∀ w, (Op.stringOp .add ⟨#[32, 120, 61]⟩ ⟨#[51]⟩).run Tryz.prog w = .ok (.string ⟨#[32, 120, 61, 51]⟩) w := fun w => run_string_add_lists w [32, 120, 61] [51] (by simp) (by simp)
  have r6 : ∀ w, (Op.stringOp .add ⟨#[91, 97, 93]⟩ ⟨#[32, 120, 61, 51]⟩).run Tryz.prog w = .ok (.string ⟨#[91, 97, 93, 32, 120, 61, 51]⟩) w := fun w => run_string_add_lists w [91, 97, 93] [32, 120, 61, 51] (by simp) (by simp)
  go_enter Tryz.func23, Tryz.ntmps23
  go_wp2_with fail
  go_loopw [3, 13] (fun vs vi wr => ((vi = .int .i64 0 ∧ vs = .string ⟨#[91, 97, 93]⟩) ∨ (vi = .int .i64 1 ∧ vs = .string ⟨#[91, 97, 93, 32, 120, 61, 51]⟩)) ∧ Below w.heap.size w wr) (fun _ vi _ => 1 - (intOf vi).toNat)
  case atStart => exact ⟨Or.inl ⟨rfl, rfl⟩, by repeat (first | assumption | (with_reducible exact Below.refl _ _) | exact balloc _ _ | exact balloc2 _ _ _ | refine btrans ?_ (by assumption) | refine btrans ?_ (balloc _ _))⟩
  case round =>
    obtain ⟨⟨rfl, rfl⟩ | ⟨rfl, rfl⟩, hbr⟩ := hrel
    · obtain ⟨a, rfl, v0, v1, v2, v3, v4, v5⟩ := (H.out.below hbr) 0 (by decide)
      have hz : a.add 0 = a := by simp [Addr.add]
      simp [hz] at v0 v1 v2 v3 v4 v5
      clear hz
      go_wp2_with fail
      go_region_held3 (fun w' => w'.cell? ⟨wr.heap.size, 0, none⟩ = some (.string ⟨#[120]⟩) ∧ w'.cell? ⟨wr.heap.size, 1, none⟩ = some (.int .i64 0) ∧ w'.cell? ⟨wr.heap.size, 2, none⟩ = some (.int .i64 3) ∧ w'.cell? ⟨wr.heap.size, 3, none⟩ = some (.float .f64 0) ∧ w'.cell? ⟨wr.heap.size, 4, none⟩ = some (.string ⟨#[]⟩) ∧ w'.cell? ⟨wr.heap.size, 5, none⟩ = some (.bool false) ∧ Below w.heap.size w w' ∧ wr.heap.size < w'.heap.size)
        (first | exact box_start hbr | assumption | exact box_below (by assumption) (by assumption))
        (first | (go_at_call 15; refine (print_3 _).mono ?_; rintro e w1 ⟨rfl, hb⟩))
      all_goals
        go_wp2
        exact ⟨⟨Or.inr ⟨rfl, rfl⟩, box_own (by assumption)⟩, by simp [intOf]⟩
    · go_wp2_with fail
      go_ret
      exact ⟨rfl, hbr⟩
theorem newB_one (a : A) (h : canonV a.val = a.val) : newB [a] = [a] := newB_self (by simp [Rising]) (by intro b hb; rw [List.mem_singleton.1 hb]; exact h)
/-- one attribute in a block of its own -/
theorem one_attrs (w : World) (a : A) (e : TypeId) : Attrs (w.alloc (.cells #[.string ⟨a.name.toArray⟩, .int .i64 a.val.kind, .int .i64 a.val.int, .float .f64 a.val.num, .string ⟨a.val.text.toArray⟩, .bool a.val.yes] e)) (some ⟨w.heap.size, 0, none⟩) [a] := by
  intro i hi
  have : i = 0 := by simpa using hi
  subst this
  refine ⟨_, rfl, ?_⟩
  have c : ∀ o, (w.alloc (.cells #[.string ⟨a.name.toArray⟩, .int .i64 a.val.kind, .int .i64 a.val.int, .float .f64 a.val.num, .string ⟨a.val.text.toArray⟩, .bool a.val.yes] e)).cell? ⟨w.heap.size, o, none⟩ = #[.string ⟨a.name.toArray⟩, .int .i64 a.val.kind, .int .i64 a.val.int, .float .f64 a.val.num, .string ⟨a.val.text.toArray⟩, .bool a.val.yes][o]? := fun o => World.cell?_alloc_at _ _ _ _ rfl
  exact ⟨c 0, c 1, c 2, c 3, c 4, c 5⟩
theorem new_fit (w : World) (b : Nat) (hb : b = w.heap.size) : Calls Tryz.prog 21 #[.string ⟨#[97]⟩, .slice (some ⟨b, 0, none⟩) 1 1] (w.alloc (.cells #[.string ⟨#[120]⟩, .int .i64 0, .int .i64 3, .float .f64 0, .string ⟨#[]⟩, .bool false] 42)) fun e w' =>
    ∃ b0 cp, e = .returned (ev [97] b0 1 cp) ∧ Attrs w' b0 [⟨[120], 0, 3, 0, [], false⟩] ∧ Below w.heap.size w w' := by
  subst hb
  have h := new_any [97] (some ⟨w.heap.size, 0, none⟩) 1 [⟨[120], 0, 3, 0, [], false⟩] _ (one_attrs w ⟨[120], 0, 3, 0, [], false⟩ 42) (by decide)
  rw [newB_one ⟨[120], 0, 3, 0, [], false⟩ (by simp [canonV])] at h
  refine h.mono ?_
  rintro e w' ⟨b0, cp, h1, h2, h3, h4⟩
  exact ⟨b0, cp, h1, h2, btrans (balloc _ _) h4⟩
set_option maxHeartbeats 400000 in
theorem fit03_any (w : World) : Calls Tryz.prog 19 #[] w fun e w' => e = .returned (.bool true) ∧ Below w.heap.size w w' := by
  have n1 : Sc.nameB [97, 49] = true := by decide
  have n2 : Sc.nameB [49, 97] = false := by decide
  go_enter Tryz.func19, Tryz.ntmps19
  go_wp2_with fail
  refine (of_3 _).mono ?_
  rintro e w1 ⟨rfl, hb1⟩
  go_wp2_with fail
  refine (new_fit _ _ (by simp)).mono ?_
  rintro e w2 ⟨b0, cp, rfl, hat, hb2⟩
  have HAT := Lib.hid hat; clear hat
  go_wp2_with (first | (go_at_call 23; refine (eprint_fit _ _ _ HAT.out).mono ?_; rintro e w3 ⟨rfl, hb3⟩) | (go_at_call 46; refine (Sc.name_l _ _ (by decide)).mono ?_; rintro e w' ⟨rfl, rfl⟩))
  go_ret
  exact ⟨rfl, by repeat (first | assumption | (with_reducible exact Below.refl _ _) | exact balloc _ _ | exact balloc2 _ _ _ | refine btrans ?_ (by assumption) | refine btrans ?_ (balloc _ _))⟩
end Go.Proofs.YthdihhkadaafcaaGreatDoor.Val
end

section
/- A SLICE OF ATTRIBUTES AS AN ARGUMENT. -/
namespace Go.Proofs.YthdihhkadaafcaaGreatDoor.Open
open Go.ChangeShapes Go.WideShapes Go.ChangeAt Go.RowKit Go.Deep
def AOk (a : Val.A) : Prop := a.name.length ≤ 140737488351232 ∧ VOk a.val
section
variable {H : Type} {enc : TypeId × Value → H} {w : World} {base : Nat} {spare : Nat → Bool} {held : Bool}
theorem attr_leaves : leaves Tryz.prog 3 42 = [9, 3, 2, 22, 9, 4] := by kernel_rfl
theorem attr_packed : packed Tryz.prog 3 42 = true := by kernel_rfl
set_option maxRecDepth 100000 in
theorem open_attrs {r : Reach} {b0 : Nat} {v : Value} {d : DataW H} {p : List MemPlace} (hv : Value.okWide Tryz.prog w r b0 35 v) (h : DataW.Trod enc Tryz.prog w base spare held 35 v d p)
    (hr : ∀ k ∈ DataW.weights Tryz.prog 35 d, k ≤ 140737488351232) : ∃ (a0 : Option Addr) (cap : Nat) (l : List Val.A), v = .slice a0 l.length cap ∧ l.length ≤ cap ∧ cap ≤ maxLen ∧ Val.Attrs w a0 l ∧ (∀ x ∈ l, AOk x) ∧ (a0 = none → l = [] ∧ cap = 0) := by
  have hu : Tryz.prog.underlying 35 = some (.slice 42) := Tryz.underlying35
  have hce : Tryz.prog.cellsOf 42 = 6 := by kernel_rfl
  obtain ⟨a0, ln, cp, rfl⟩ := okWide_slice hu hv
  obtain ⟨fuel, hf⟩ := h
  rcases open_slice hu hf with ⟨h0, _⟩ | ⟨a, len, cap, m, n, D, Pl, h0, hb, hl, hm, hmm, hx, hel⟩
  · have he : (a0 = none ∧ ln = 0 ∧ cp = 0) := by simpa [Value.cells] using h0
    obtain ⟨rfl, rfl, rfl⟩ := he
    exact ⟨none, 0, [], rfl, Nat.le_refl _, Nat.zero_le _, fun i h => absurd h (Nat.not_lt_zero _), fun x hx => (nomatch hx), fun _ => ⟨rfl, rfl⟩⟩
  · have he : (a0 = some a ∧ ln = len ∧ cp = cap) := by simpa [Value.cells] using h0
    obtain ⟨rfl, rfl, rfl⟩ := he
    have hlm : ln ≤ m := by rw [hmm]; split <;> omega
    have each : ∀ i, i < ln → ∃ x : Val.A, Val.AAt w (a.add (i * 6)) x ∧ AOk x := by
      intro i hi
      obtain ⟨cs', h1, h2⟩ := hel i (by omega)
      rw [hce] at h1
      obtain ⟨_, hlen, hcell⟩ := World.cells?_some h1
      have hcs := cells_of 3 attr_packed h2 (by rw [hlen, hce])
      rw [attr_leaves] at hcs
      have hw : ∀ k ∈ DataW.weights Tryz.prog 42 (D i), k ≤ 140737488351232 := by
        intro k hk
        refine hr k ?_
        have hd : d = .slice ((List.range ln).map D) ((List.range (m - ln)).map fun j => D (ln + j)) := congrArg Prod.fst hx
        rw [hd]
        simp only [DataW.weights, hu]
        exact List.mem_cons_of_mem _ (List.mem_append_left _ (weightsAll_mem (List.mem_map.2 ⟨i, List.mem_range.2 hi, rfl⟩) k hk))
      obtain ⟨v0, u0, e0, hh0, r0⟩ := hcs.cons
      obtain ⟨nm, rfl, w0⟩ := hh0.string Tryz.underlying9
      obtain ⟨k, nn, x, t, y, us, e, ok, hn⟩ := val_cells hw (ts := []) r0
      rw [hn.nil, List.append_nil] at e
      subst e; subst e0
      refine ⟨⟨nm, ⟨k, nn, x, t, y⟩⟩, ⟨?_, ?_, ?_, ?_, ?_, ?_⟩, hw _ w0, ok⟩
      · exact hcell 0 (by decide)
      · exact hcell 1 (by decide)
      · exact hcell 2 (by decide)
      · exact hcell 3 (by decide)
      · exact hcell 4 (by decide)
      · exact hcell 5 (by decide)
    obtain ⟨F, hF⟩ := choose_lt each
    refine ⟨some a, cp, (List.range ln).map F, by simp, by simpa using hl, hm, fun i hi => ⟨a, rfl, ?_⟩, fun x hx => ?_, fun e => by cases e⟩
    · have hi' : i < ln := by simpa using hi
      have : ((List.range ln).map F)[i] = F i := by simp
      rw [this]
      exact (hF i hi').1
    · obtain ⟨i, hi, rfl⟩ := List.mem_map.1 hx
      exact (hF i (List.mem_range.1 hi)).2
end
end Go.Proofs.YthdihhkadaafcaaGreatDoor.Open
end

section
/- THE WALK OF light of chapter 03's laws; of a name the last attribute. -/
namespace Go.Proofs.YthdihhkadaafcaaGreatDoor.Val
open Go.RowKit Flt
attribute [local go_sem] run_store_flt
def lit1 (a : A) : Bool := decide (a.name.length + a.val.text.length ≤ 300)
def lightB (l : List A) : Bool := l.all lit1 && decide (l.length ≤ 30)
theorem all_take_succ (l : List A) (k : Nat) (h : k < l.length) : (l.take (k + 1)).all lit1 = ((l.take k).all lit1 && lit1 l[k]) := by
  rw [List.take_succ_eq_append_getElem h]; simp only [List.all_append, List.all_cons, List.all_nil, Bool.and_true]
theorem all_no (l : List A) (k : Nat) (h : k < l.length) (hk : lit1 l[k] = false) : l.all lit1 = false := by
  rw [Bool.eq_false_iff]; intro ha
  have := List.all_eq_true.1 ha l[k] (List.getElem_mem h)
  rw [hk] at this; cases this
set_option maxHeartbeats 1000000 in
theorem light03_any (a0 : Option Addr) (cap : Nat) (l : List A) (w : World) (hl : Attrs w a0 l) (hok : ∀ x ∈ l, Open.AOk x) (hm : l.length ≤ maxLen) :
    Calls Tryz.prog 20 #[.slice a0 l.length cap] w fun e w' => e = .returned (.bool (lightB l)) ∧ Below w.heap.size w w' := by
  have hr : lightB l = (l.all lit1 && decide (l.length ≤ 30)) := rfl
  unfold maxLen at hm
  have HR := Lib.hid hr; have HL := Lib.hid hl; have HOK := Lib.hid hok; clear hr hl hok
  go_enter Tryz.func20, Tryz.ntmps20
  go_wp2_with fail
  go_loopw [7] (fun vi wr => ∃ k : Nat, k ≤ l.length ∧ vi = .int .i64 k ∧ Hid ((l.take k).all lit1 = true) ∧ Below w.heap.size w wr) (fun vi _ => l.length - (intOf vi).toNat)
  case atStart => exact ⟨0, Nat.zero_le _, rfl, Lib.hid rfl, Below.refl _ _⟩
  case round =>
    obtain ⟨k, hk, rfl, HP, hbr⟩ := hrel
    by_cases hlt : k < l.length
    · have i1 : (k : Int) < (l.length : Int) := by omega
      have i0 : (0 : Int) ≤ (k : Int) := by omega
      obtain ⟨a, rfl, v0, v1, v2, v3, v4, v5⟩ := (HL.out.below hbr) k hlt
      have hx := HOK.out _ (List.getElem_mem hlt)
      have hx1 : l[k].name.length ≤ 140737488351232 := hx.1
      have hx2 : l[k].val.text.length ≤ 140737488351232 := hx.2.2.2.2
      have hts := all_take_succ l k hlt
      have hno := all_no l k hlt
      have hl1 : lit1 l[k] = decide (l[k].name.length + l[k].val.text.length ≤ 300) := rfl
      rw [HP.out, Bool.true_and] at hts
      have HTS := Lib.hid hts; have HNO := Lib.hid hno; have HL1 := Lib.hid hl1
      clear hts hno hl1 HP hx
      have hw : IntKind.i64.wrap ((l[k].name.length : Int) + (l[k].val.text.length : Int)) = (l[k].name.length : Int) + (l[k].val.text.length : Int) := by
        simp only [IntKind.wrap, IntKind.bits, IntKind.signed]; simp; omega
      by_cases hs : l[k].name.length + l[k].val.text.length ≤ 300
      · have d1 : decide (300 < (l[k].name.length : Int) + (l[k].val.text.length : Int)) = false := by rw [decide_eq_false_iff_not]; omega
        have hy : lit1 l[k] = true := by rw [HL1.out]; simpa using hs
        have HY := Lib.hid hy; clear hy hs
        go_wp2_with fail
        exact ⟨⟨k + 1, by omega, by go_num, Lib.hid (HTS.out.trans HY.out), by repeat (first | assumption | (with_reducible exact Below.refl _ _) | exact balloc _ _ | exact balloc2 _ _ _ | refine btrans ?_ (by assumption) | refine btrans ?_ (balloc _ _))⟩, by simp [intOf]; go_num⟩
      · have d1 : decide (300 < (l[k].name.length : Int) + (l[k].val.text.length : Int)) = true := by rw [decide_eq_true_iff]; omega
        have hy : lit1 l[k] = false := by rw [HL1.out]; simpa using hs
        have HY := Lib.hid hy; clear hy hs
        go_wp2_with fail
        go_ret
        exact ⟨ret_bool (by rw [HR.out, HNO.out HY.out]; rfl), by repeat (first | assumption | (with_reducible exact Below.refl _ _) | exact balloc _ _ | exact balloc2 _ _ _ | refine btrans ?_ (by assumption) | refine btrans ?_ (balloc _ _))⟩
    · obtain rfl : k = l.length := by omega
      go_wp2
      go_ret
      exact ⟨ret_bool (by have := HP.out; rw [List.take_length] at this; rw [HR.out, this, Bool.eq_iff_iff]; simp; omega), hbr⟩
theorem fold_skip (t : List UInt8) : ∀ (l : List A) (o : Option V), (∀ a ∈ l, a.name ≠ t) → l.foldl (fun o a => if a.name = t then some (canonV a.val) else o) o = o
  | [], _, _ => rfl
  | a :: l, o, h => by rw [List.foldl_cons, if_neg (h a (by simp))]; exact fold_skip t l o fun b hb => h b (by simp [hb])
theorem last_at {l : List A} {t : List UInt8} {i : Nat} (hi : i < l.length) (he : l[i].name = t) (h : ∀ j (hj : j < l.length), i + 1 ≤ j → l[j].name ≠ t) : lastV l t = some (canonV l[i].val) := by
  have e : l = l.take (i + 1) ++ l.drop (i + 1) := (List.take_append_drop _ _).symm
  have hs : lastV l t = lastV (l.take (i + 1)) t := by
    conv => lhs; rw [e]
    unfold lastV
    rw [List.foldl_append]
    refine fold_skip t _ _ fun a ha => ?_
    obtain ⟨k, hk, hak⟩ := List.mem_iff_getElem.1 ha
    rw [List.getElem_drop] at hak
    rw [← hak]
    exact h _ _ (by omega)
  rw [hs, List.take_succ_eq_append_getElem hi, lastV_snoc, if_pos he]
theorem last_no {l : List A} {t : List UInt8} (h : ∀ j (hj : j < l.length), 0 ≤ j → l[j].name ≠ t) : lastV l t = none :=
  lastV_none fun a ha => by
    obtain ⟨k, hk, rfl⟩ := List.mem_iff_getElem.1 ha
    exact h k hk (Nat.zero_le _)
end Go.Proofs.YthdihhkadaafcaaGreatDoor.Val
end

section
/- THE WALKS OF event.kept and event.Right. -/
namespace Go.Proofs.YthdihhkadaafcaaGreatDoor.Val
open Go.RowKit Flt
attribute [local go_sem] run_store_flt Ord.ford_eq
theorem run_equalIn_flt {P : Program} (w : World) (d : Nat) (t : TypeId) (a b : Nat) (h : P.underlying t = some (.float .f64)) : (Op.equalIn (d + 1) t (.float .f64 a) (.float .f64 b)).run P w = .ok (Flt.eq a b) w := by
  simp [Op.equalIn, run_underlying h, Op.floatEq, Ord.ford_eq]
theorem eqF (a b : Nat) (w : World) : (Op.equalIn 9999 22 (.float .f64 a) (.float .f64 b)).run Tryz.prog w = .ok (Flt.eq a b) w := run_equalIn_flt w 9998 _ a b Tryz.underlying22
def eqV (a b : V) : Bool := a.kind == b.kind && a.int == b.int && Flt.eq a.num b.num && a.text == b.text && a.yes == b.yes
set_option maxRecDepth 20000 in
theorem eq_val (k n : Int) (x : Nat) (t : List UInt8) (y : Bool) (k2 n2 : Int) (x2 : Nat) (t2 : List UInt8) (y2 : Bool) (w : World) :
    (Op.equalIn 10000 24 (val k n x t y) (val k2 n2 x2 t2 y2)).run Tryz.prog w = .ok (eqV ⟨k, n, x, t, y⟩ ⟨k2, n2, x2, t2, y2⟩) w := by
  have hS : Tryz.prog.underlying 24 = some (.struct (Tryz.prog.fieldsOf 24)) := by kernel_rfl
  have hp : Tryz.prog.stoodInHeld 24 = false := by kernel_rfl
  have hf := eqF x x2
  rw [show (10000 : Nat) = 9999 + 1 from rfl, run_equalIn_agg w 9999 24 _ _ hS hp]
  simp only [Program.fieldsOf, Tryz.underlying24]
  unfold eqV
  cases h1 : (k == k2)
  · go_simp
  cases h2 : (n == n2)
  · go_simp
  cases h3 : Flt.eq x x2
  · rw [h3] at hf; go_simp
  rw [h3] at hf
  cases h4 : (t == t2)
  · go_simp
  cases h5 : (y == y2)
  · go_simp
  · go_simp
def keptB (v : V) : Bool := if voidB v then eqV ⟨(canonV v).kind, (canonV v).int, 0, (canonV v).text, (canonV v).yes⟩ ⟨v.kind, v.int, 0, v.text, v.yes⟩ else eqV (canonV v) v
attribute [local go_sem] eqF
set_option maxRecDepth 20000 in
theorem kept_any (k n : Int) (x : Nat) (t : List UInt8) (y : Bool) (w : World) :
    Calls Tryz.prog 57 #[val k n x t y] w fun e w' => e = .returned (.bool (keptB ⟨k, n, x, t, y⟩)) ∧ Below w.heap.size w w' := by
  have hv (w : World) := void_any k n x t y w
  have hc (w : World) := vcanon_any k n x t y w
  have hr : keptB ⟨k, n, x, t, y⟩ = if voidB ⟨k, n, x, t, y⟩ then eqV ⟨(canonV ⟨k, n, x, t, y⟩).kind, (canonV ⟨k, n, x, t, y⟩).int, 0, (canonV ⟨k, n, x, t, y⟩).text, (canonV ⟨k, n, x, t, y⟩).yes⟩ ⟨k, n, 0, t, y⟩ else eqV (canonV ⟨k, n, x, t, y⟩) ⟨k, n, x, t, y⟩ := rfl
  generalize voidB ⟨k, n, x, t, y⟩ = vb at *
  generalize canonV ⟨k, n, x, t, y⟩ = cv at *
  obtain ⟨k2, n2, x2, t2, y2⟩ := cv
  have HV := Lib.hid hv; have HC := Lib.hid hc; have HR := Lib.hid hr; clear hv hc hr
  cases vb
  all_goals
    go_enter Tryz.func57, Tryz.ntmps57
    go_wp2_with fail
    refine (HC.out _).mono ?_
    rintro e w1 ⟨rfl, hb1⟩
    obtain ⟨hc1, hf1⟩ := bcell hb1
    have hsz1 := size1 hb1
    go_wp2_with fail
    refine (HV.out _).mono ?_
    rintro e w2 ⟨rfl, hb2⟩
    obtain ⟨hc2, hf2⟩ := bcell hb2
    have hsz2 := size1 hb2
    have z1 : ¬ (w.heap.size = w1.heap.size) := by omega
    have z2 : ¬ (w1.heap.size = w.heap.size) := by omega
    have p : ∀ o, w2.cell? ⟨w.heap.size, o, none⟩ = #[.int .i64 k, .int .i64 n, .float .f64 x, .string ⟨t.toArray⟩, .bool y][o]? := fun o => (hc2 _ _ (by simp; omega)).trans ((World.cell?_alloc_past _ _ _ hsz1).trans ((hc1 _ _ (by simp)).trans (World.cell?_alloc_at _ _ _ _ rfl)))
    have q : ∀ o, w2.cell? ⟨w1.heap.size, o, none⟩ = #[.int .i64 k2, .int .i64 n2, .float .f64 x2, .string ⟨t2.toArray⟩, .bool y2][o]? := fun o => (hc2 _ _ (by simp)).trans (World.cell?_alloc_at _ _ _ _ rfl)
    have p0 := p 0; have p1 := p 1; have p2 := p 2; have p3 := p 3; have p4 := p 4
    have q0 := q 0; have q1 := q 1; have q2 := q 2; have q3 := q 3; have q4 := q 4
    have fp : w2.frozen? ⟨w.heap.size, 2, none⟩ = false := (hf2 _ _ (by simp; omega)).trans ((World.frozen?_alloc_past _ _ _ hsz1).trans ((hf1 _ _ (by simp)).trans (World.frozen?_alloc_at _ _ _ _ rfl)))
    have fq : w2.frozen? ⟨w1.heap.size, 2, none⟩ = false := (hf2 _ _ (by simp)).trans (World.frozen?_alloc_at _ _ _ _ rfl)
    have hbb : Below w.heap.size w w2 := btrans (btrans (btrans (balloc _ _) hb1) (balloc _ _)) hb2
    clear hc1 hf1 hc2 hf2 p q hb1 hb2
    go_wp2_with fail
    all_goals
      go_ret
      refine ⟨ret_bool (by rw [HR.out]; simp_all [eqV]), ?_⟩
      first | exact hbb | exact (hbb.setCell (by simp; omega) _).setCell (by simp) _
end Go.Proofs.YthdihhkadaafcaaGreatDoor.Val
end
