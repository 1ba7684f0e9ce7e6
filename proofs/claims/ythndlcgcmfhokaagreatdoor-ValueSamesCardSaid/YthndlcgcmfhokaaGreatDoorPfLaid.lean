/- THE TABLES THAT ParseFloat's EXACT ROAD READS, as a row lays them. -/
import Derived.Test.YthndlcgcmfhokaaGreatDoorParseFl
namespace Go.Proofs.YthndlcgcmfhokaaGreatDoor.Pf
open Go.RowKit Go.Lib
theorem trod_float {H : Type} {enc : TypeId × Value → H} {P : Program} {w : World} {base : Nat} {spare : Nat → Bool} {held : Bool} {fuel : Nat} {t : TypeId} {cs : List Value} {x : DataW H × List MemPlace} {k : FloatKind}
    (ht : P.underlying t = some (.float k)) (h : DataW.trod enc P w base spare held fuel t cs = some x) : ∃ n, cs = [.float k n] ∧ x = (.lit (.float k n), []) := by
  cases fuel with
  | zero => simp [DataW.trod] at h
  | succ n =>
    unfold DataW.trod at h
    rw [ht] at h
    split at h <;> simp_all
theorem bool_of_reads {P : Program} {w : World} {name : String} {g : Nat} {t : TypeId} {b : Bool} (hn : P.globalNamed name = some g) (hy : (P.globals[g]?).map (·.type) = some t) (ht : P.underlying t = some .bool)
    (h : VarReads P w name (.lit (.bool b))) : w.cell? ⟨g, 0, none⟩ = some (.bool b) := by
  obtain ⟨g', t', cs, fuel, p, hg, hty, hvar, hd⟩ := h
  obtain rfl := Option.some.inj (hn.symm.trans hg)
  obtain rfl := Option.some.inj (hy.symm.trans hty)
  obtain ⟨b', hb, hx⟩ := DataW.trod_bool ht hd
  have e := congrArg Prod.fst hx
  simp only [DataW.lit.injEq, Lit.bool.injEq] at e
  rw [World.var?_cell hn hvar 0, ← Array.getElem?_toList, hb, e]; rfl
theorem field0_of_reads {P : Program} {w : World} {name : String} {g : Nat} {t : TypeId} {fs : Array Field} {f : Field} {k : IntKind} {z : Int} {ds : List (DataW Unit)} (hn : P.globalNamed name = some g) (hy : (P.globals[g]?).map (·.type) = some t) (ht : P.underlying t = some (.struct fs))
    (hf : fs[0]? = some f) (ho : f.offset = 0) (hc : P.cellsOf f.type = 1) (hk : P.underlying f.type = some (.int k)) (h : VarReads P w name (.agg (.lit (.int k z) :: ds))) : w.cell? ⟨g, 0, none⟩ = some (.int k z) := by
  obtain ⟨g', t', cs, fuel, p, hg, hty, hvar, hd⟩ := h
  obtain rfl := Option.some.inj (hn.symm.trans hg)
  obtain rfl := Option.some.inj (hy.symm.trans hty)
  obtain ⟨xs, n, rfl, hx, hl, hxl, hall⟩ := DataW.trod_struct ht hd
  have e := congrArg Prod.fst hx
  simp only [DataW.agg.injEq] at e
  have h0 := hall 0 f hf
  rw [ho, hc] at h0
  cases xs with
  | nil => simp at e
  | cons y ys =>
    simp only [List.map_cons, List.cons.injEq] at e
    simp only [List.getElem?_cons_zero, List.drop_zero] at h0
    obtain ⟨z', hz, hyz, _⟩ := DataW.trod_int hk h0
    have e1 := e.1
    rw [hyz] at e1
    simp only [DataW.lit.injEq, Lit.int.injEq, true_and] at e1
    rw [World.var?_cell hn hvar 0, ← Array.getElem?_toList]
    have := congrArg (·[0]?) hz
    simp only [List.getElem?_take, List.getElem?_cons_zero] at this
    rw [e1]; simpa using this
theorem floats_of_reads {P : Program} {w : World} {name : String} {g : Nat} {t e : TypeId} {k : FloatKind} {l : List (DataW Unit)} {z : Nat} {i : Nat} (hn : P.globalNamed name = some g) (hy : (P.globals[g]?).map (·.type) = some t)
    (ht : P.underlying t = some (.slice e)) (he : P.underlying e = some (.float k)) (hc : P.cellsOf e = 1) (hi : l[i]? = some (.lit (.float k z))) (h : VarReads P w name (.slice l [])) :
    ∃ R o c : Nat, w.cell? ⟨g, 0, none⟩ = some (.slice (some ⟨R, o, none⟩) l.length c) ∧ w.cell? ⟨R, o + i, none⟩ = some (.float k z) := by
  obtain ⟨g', t', cs, fuel, p, hg, hty, hvar, hd⟩ := h
  obtain rfl := Option.some.inj (hn.symm.trans hg)
  obtain rfl := Option.some.inj (hy.symm.trans hty)
  rcases DataW.trod_slice ht hd with ⟨_, hx⟩ | ⟨a, len, cap, el, rs, m, rfl, hcs, hx, _, hlc, _, hel, helem, hsp, _⟩
  · cases hx
  have e0 := congrArg Prod.fst hx
  simp only [DataW.slice.injEq] at e0
  obtain ⟨eE, eR⟩ := e0
  have hlen : len = l.length := by
    have := congrArg List.length eE
    simp at this
    omega
  have hlt : i < l.length := (List.getElem?_eq_some_iff.1 hi).1
  have h1 := helem i (by omega)
  rw [hc, Nat.mul_one] at h1
  obtain ⟨b, hb⟩ : ∃ b, el[i]? = some b := ⟨el[i]'(by omega), List.getElem?_eq_getElem (by omega)⟩
  rw [hb] at h1
  obtain ⟨ce, hce, hte⟩ := Option.bind_eq_some_iff.1 h1
  obtain ⟨z', hz, hbz⟩ := trod_float he hte
  have hb1 : (DataW.lit (.float k z) : DataW Unit) = b.1 := by
    have := congrArg (·[i]?) eE
    rw [List.getElem?_map, hb] at this
    rw [hi] at this
    simpa using this
  rw [hbz] at hb1
  simp only [DataW.lit.injEq, Lit.float.injEq, true_and] at hb1
  obtain ⟨_, _, hcc⟩ := World.cells?_some hce
  have h2 := hcc 0 (by omega)
  rw [hz, ← hb1] at h2
  have e1 : (a.add i).add 0 = a.add i := by simp [Addr.add]
  rw [e1] at h2
  have hcell : w.cell? (a.add i) = some (.float k z) := h2
  obtain ⟨R, o, sR⟩ := a
  obtain rfl : sR = none := by
    have h3 := helem 0 (by omega)
    rw [hc, Nat.zero_mul, List.getElem?_eq_getElem (show 0 < el.length by omega)] at h3
    obtain ⟨ce2, hce2, _⟩ := Option.bind_eq_some_iff.1 h3
    obtain ⟨_, _, hcc2⟩ := World.cells?_some hce2
    have h4 := hcc2 0 (by omega)
    have e2 : ((Addr.add ⟨R, o, sR⟩ 0).add 0) = ⟨R, o, sR⟩ := by simp [Addr.add]
    rw [e2] at h4
    cases ce2 with
    | nil => simp at hcc2; rename_i q; simp at q
    | cons v vs => exact Go.Proofs.cell_spot h4
  refine ⟨R, o, cap, ?_, ?_⟩
  · rw [World.var?_cell hn hvar 0, ← Array.getElem?_toList, hcs, hlen]
    rfl
  · rwa [Addr.add_lit] at hcell
/-- what a row must list -/
structure PfLists (l : List (String × DataW Unit)) : Prop where
  plain : (l.all fun x => x.2.handleName?.isNone) = true
  f1 : l.find? (fun x => x.1 == "internal/strconv.optimize") = some ("internal/strconv.optimize", .lit (.bool true))
  f2 : ∃ ds, l.find? (fun x => x.1 == "internal/strconv.float64info") = some ("internal/strconv.float64info", .agg (.lit (.int .u64 52) :: ds))
  f3 : ∃ ds, l.find? (fun x => x.1 == "internal/strconv.float64pow10") = some ("internal/strconv.float64pow10", .slice ds []) ∧ ds.length = 23 ∧ ds[1]? = some (.lit (.float .f64 4621819117588971520))
theorem pf_of {l : List (String × DataW Unit)} {W : World} (L : PfLists l) (h : laidMetH Tryz.prog l W) : PfT W := by
  rw [MakeChecks.laidMetH_plain _ _ _ L.plain] at h
  obtain ⟨ds, f2⟩ := L.f2
  obtain ⟨ds3, f3, f4, f5⟩ := L.f3
  obtain ⟨R, o, c, h1, h2⟩ := floats_of_reads (g := 22) (by kernel_rfl) (by kernel_rfl) Tryz.underlying275 Tryz.underlying22 (by kernel_rfl) f5 (Tab.reads_of h f3)
  rw [f4] at h1
  exact ⟨bool_of_reads (g := 5) (by kernel_rfl) (by kernel_rfl) Tryz.underlying4 (Tab.reads_of h L.f1),
    field0_of_reads (g := 10) (by kernel_rfl) (by kernel_rfl) Tryz.underlying240 rfl rfl (by kernel_rfl) (by kernel_rfl) (Tab.reads_of h f2), R, o, c, h1, h2⟩
end Go.Proofs.YthndlcgcmfhokaaGreatDoor.Pf
