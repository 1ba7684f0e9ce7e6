/- THE TABLES THAT A VALUE's TEXT READS: as a row lays them; they stand where nothing old turns. -/
import Derived.Test.YtnccpddjdgndcaaGreatDoorFmtP
import Derived.Test.YtnccpddjdgndcaaGreatDoorLaid
import Derived.PinnedBridge
import Derived.Lib.LaidPrint
import Derived.Lib.LaidU8
namespace Go.Proofs.YtnccpddjdgndcaaGreatDoor.Tab
open Go.RowKit Go.Lib
structure Tabs (w : World) : Prop where
  pow : Fmt.Pow w
  p10 : Fmt.P10 w
  prt : Lib.PrintTabsAt 18 19 20 21 goPrintTabs w
  utf : Lib.Utf8Tabs 3 4 w
theorem cell_below {w w' : World} {B : Nat} {a : Addr} {v : Value} (hb : Below B w w') (hB : w.heap.size ≤ B) (h : w.cell? a = some v) : w'.cell? a = some v :=
  (hb.cell (p := a) (Nat.lt_of_lt_of_le (World.block_lt_of_cell? _ _ h) hB)).trans h
theorem tabSlice_below {w w' : World} {B g : Nat} {k : IntKind} {t : List Nat} (hb : Below B w w') (hB : w.heap.size ≤ B) (h : TabSlice g k t w) : TabSlice g k t w' := by
  obtain ⟨R, o, c, h1, h2⟩ := h
  exact ⟨R, o, c, cell_below hb hB h1, fun j hj => cell_below hb hB (h2 j hj)⟩
theorem Tabs.below {w w' : World} {B : Nat} (h : Tabs w) (hb : Below B w w') (hB : w.heap.size ≤ B) : Tabs w' := by
  obtain ⟨p1, p2, p3, p4, p5⟩ := h.prt
  exact ⟨fun i hi => ⟨cell_below hb hB (h.pow i hi).1, cell_below hb hB (h.pow i hi).2⟩, h.p10.below hb hB,
    ⟨tabSlice_below hb hB p1, tabSlice_below hb hB p2, tabSlice_below hb hB p3, tabSlice_below hb hB p4, p5⟩,
    fun c hc => cell_below hb hB (h.utf.1 c hc), fun i hi => ⟨cell_below hb hB (h.utf.2 i hi).1, cell_below hb hB (h.utf.2 i hi).2⟩⟩
theorem reads_of {l : List (String × DataW Unit)} {W : World} {n : String} {d : DataW Unit} (h : laidMet Tryz.prog l W) (hf : l.find? (fun x => x.1 == n) = some (n, d)) : VarReads Tryz.prog W n d :=
  Go.Lib.laidMet.reads h (List.mem_of_find?_eq_some hf)
theorem tabIs_of_reads {P : Program} {W : World} {name : String} {k : IntKind} {zs : List Int} {g : Nat} {t e : TypeId} {n : Nat}
    (hg : P.globalNamed name = some g) (hty : (P.globals[g]?).map (·.type) = some t) (ht : P.underlying t = some (.array n e)) (he : P.underlying e = some (.int k)) (hce : P.cellsOf e = 1) (hct : P.cellsOf t = n)
    (h : VarReads P W name (tabData k zs)) : TabIs P W name k zs := by
  obtain ⟨g', t', cs, fuel, p, hg', ht', hvar, hd⟩ := h
  obtain rfl := Option.some.inj (hg.symm.trans hg')
  obtain rfl := Option.some.inj (hty.symm.trans ht')
  unfold TabIs
  rw [hvar, ← cells_of_tab ht he hce hct hd]
theorem pow_of_reads {W : World} (h : VarReads Tryz.prog W "internal/strconv.pow10Tab" Go.Pinned.pow10Tab) : Fmt.Pow W := by
  intro i hi
  obtain ⟨g, t, cs, fuel, p, hg, hty, hvar, hd⟩ := h
  obtain rfl := Option.some.inj ((show Tryz.prog.globalNamed "internal/strconv.pow10Tab" = some 16 by kernel_rfl).symm.trans hg)
  obtain rfl := Option.some.inj ((show (Tryz.prog.globals[16]?).map (·.type) = some 222 by kernel_rfl).symm.trans hty)
  have hlen : Go.Pinned.pow10Rows.length = 696 := by decide +kernel
  obtain ⟨fuel', d, q, hdi, he⟩ := array_elem Tryz.underlying222 hd i hi
  have c2 : Tryz.prog.cellsOf 221 = 2 := by kernel_rfl
  have c1 : Tryz.prog.cellsOf 80 = 1 := by kernel_rfl
  have hrow : Go.Pinned.pow10Rows[i]? = some (Go.Pinned.pow10Rows.getD i (0, 0)) := by
    rw [List.getD_eq_getElem?_getD, List.getElem?_eq_getElem (by omega)]; rfl
  rw [List.getElem?_map, hrow, Option.map_some, Option.some.injEq] at hdi
  subst hdi
  rw [c2] at he
  have hcs := ints_of_struct (k := .u64) (zs := [(Fmt.hiT i : Int), (Fmt.loT i : Int)]) Tryz.underlying221 (fun j f hj => by
    match j, hj with
    | 0, hj => simp at hj; subst hj; exact ⟨Tryz.underlying80, rfl, c1⟩
    | 1, hj => simp at hj; subst hj; exact ⟨Tryz.underlying80, rfl, c1⟩
    | j + 2, hj => simp at hj) (by rw [c2]; rfl) he
  have e0 := congrArg (·[0]?) hcs
  have e1 := congrArg (·[1]?) hcs
  simp only [List.getElem?_take, List.getElem?_drop] at e0 e1
  constructor
  · rw [World.var?_cell hg hvar (i * 2), ← Array.getElem?_toList]
    simpa using e0
  · rw [World.var?_cell hg hvar (i * 2 + 1), ← Array.getElem?_toList]
    simpa using e1
theorem u8x : U8Extra Tryz.prog Tryz.lays260_ren := ⟨by kernel_rfl, by kernel_rfl, by kernel_rfl, by kernel_rfl, by kernel_rfl, by kernel_rfl, by kernel_rfl⟩
theorem prx : PrintExtra Tryz.prog Tryz.lays339_ren := ⟨by kernel_rfl, by kernel_rfl, by kernel_rfl, by kernel_rfl, by kernel_rfl, by kernel_rfl, by kernel_rfl, by kernel_rfl, by kernel_rfl, by kernel_rfl⟩
/-- what a row must list -/
structure Lists (l : List (String × DataW Unit)) : Prop where
  plain : (l.all fun x => x.2.handleName?.isNone) = true
  f1 : l.find? (fun x => x.1 == "internal/strconv.pow10Tab") = some ("internal/strconv.pow10Tab", Go.Pinned.pow10Tab)
  f2 : l.find? (fun x => x.1 == "internal/strconv.uint64pow10") = some ("internal/strconv.uint64pow10", tabData .u64 Lib.pow10Tab)
  f3 : l.find? (fun x => x.1 == "strconv.isPrint16") = some ("strconv.isPrint16", Go.Pinned.isPrint16)
  f4 : l.find? (fun x => x.1 == "strconv.isNotPrint16") = some ("strconv.isNotPrint16", Go.Pinned.isNotPrint16)
  f5 : l.find? (fun x => x.1 == "strconv.isPrint32") = some ("strconv.isPrint32", Go.Pinned.isPrint32)
  f6 : l.find? (fun x => x.1 == "strconv.isNotPrint32") = some ("strconv.isNotPrint32", Go.Pinned.isNotPrint32)
  f7 : l.find? (fun x => x.1 == "unicode/utf8.first") = some ("unicode/utf8.first", Go.Pinned.utf8First)
  f8 : l.find? (fun x => x.1 == "unicode/utf8.acceptRanges") = some ("unicode/utf8.acceptRanges", acceptData)
theorem tabs_of {l : List (String × DataW Unit)} {W : World} (L : Lists l) (h : laidMetH Tryz.prog l W) : Tabs W := by
  rw [MakeChecks.laidMetH_plain _ _ _ L.plain] at h
  have r3 := reads_of h L.f3; have r4 := reads_of h L.f4; have r5 := reads_of h L.f5; have r6 := reads_of h L.f6; have r7 := reads_of h L.f7
  rw [Pinned.isPrint16_eq] at r3
  rw [Pinned.isNotPrint16_eq] at r4
  rw [Pinned.isPrint32_eq] at r5
  rw [Pinned.isNotPrint32_eq] at r6
  rw [Pinned.utf8First_eq] at r7
  exact ⟨pow_of_reads (reads_of h L.f1), tabIs_of_reads (g := 6) (by kernel_rfl) (by kernel_rfl) Tryz.underlying144 Tryz.underlying80 (by kernel_rfl) (by kernel_rfl) (reads_of h L.f2),
    printTabs_of_reads Tryz.lays339 prx r3 r4 r5 r6, utf8Tabs_of_reads Tryz.lays260 u8x r7 (reads_of h L.f8)⟩
end Go.Proofs.YtnccpddjdgndcaaGreatDoor.Tab
