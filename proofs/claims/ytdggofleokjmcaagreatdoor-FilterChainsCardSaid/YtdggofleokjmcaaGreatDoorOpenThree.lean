/- AN ARRAY OF THREE FILTERS AS AN ARGUMENT. -/
import Derived.Test.YtdggofleokjmcaaGreatDoorOpenF
namespace Go.Proofs.YtdggofleokjmcaaGreatDoor.Open
open Go.ChangeShapes Go.WideShapes Go.ChangeAt Go.RowKit Go.Deep
/-- what is known of a filter that came in -/
def FIn (w : World) (sc : List UInt8) (a0 : Option Addr) (cap : Nat) (l : List Val.C) : Prop :=
  sc.length ≤ 140737488351232 ∧ l.length ≤ cap ∧ cap ≤ maxLen ∧ Val.Conds w a0 l ∧ (∀ x ∈ l, COk x) ∧ (a0 = none → l = [] ∧ cap = 0)
section
variable {H : Type} {enc : TypeId × Value → H} {w : World} {base : Nat} {spare : Nat → Bool} {held : Bool}
set_option maxRecDepth 100000 in
theorem open_three {r : Reach} {b0 : Nat} {v : Value} {d : DataW H} {p : List MemPlace} (hv : Value.okWide Tryz.prog w r b0 71 v) (h : DataW.Trod enc Tryz.prog w base spare held 71 v d p)
    (hr : ∀ k ∈ DataW.weights Tryz.prog 71 d, k ≤ 140737488351232) :
    ∃ (s1 : List UInt8) (a1 : Option Addr) (c1 : Nat) (l1 : List Val.C) (s2 : List UInt8) (a2 : Option Addr) (c2 : Nat) (l2 : List Val.C) (s3 : List UInt8) (a3 : Option Addr) (c3 : Nat) (l3 : List Val.C),
      v = .agg #[.string ⟨s1.toArray⟩, .slice a1 l1.length c1, .string ⟨s2.toArray⟩, .slice a2 l2.length c2, .string ⟨s3.toArray⟩, .slice a3 l3.length c3] ∧ FIn w s1 a1 c1 l1 ∧ FIn w s2 a2 c2 l2 ∧ FIn w s3 a3 c3 l3 := by
  have hu : Tryz.prog.underlying 71 = some (.array 3 63) := Tryz.underlying71
  have hc : Tryz.prog.cellsOf 63 = 2 := by kernel_rfl
  have hc2 : Tryz.prog.cellsOf 71 = 6 := by kernel_rfl
  have hagg : ∃ cs, v = .agg cs := by
    simp only [Value.okWide, hu] at hv
    obtain ⟨cs, h, _⟩ := hv
    exact ⟨cs, h⟩
  obtain ⟨cs, rfl⟩ := hagg
  obtain ⟨fuel, hf⟩ := h
  obtain ⟨xs, m, _, hxd, hl, hx, hi⟩ := DataW.trod_array hu hf
  rw [hc2] at hl
  obtain ⟨l⟩ := cs
  have hl' : l.length = 6 := by simpa [Value.cells] using hl
  have hd : d = .agg (xs.map (·.1)) := congrArg Prod.fst hxd
  have hw : ∀ i (hi : i < xs.length), ∀ k ∈ DataW.weights Tryz.prog 63 (xs[i]).1, k ≤ 140737488351232 := fun i hi k hk => by
    refine hr k ?_
    rw [hd]
    simp only [DataW.weights, hu]
    exact weightsAll_mem (List.mem_map.2 ⟨xs[i], List.getElem_mem hi, rfl⟩) k hk
  have one : ∀ i (hi3 : i < xs.length) (u0 u1 : Value), DataW.trod enc Tryz.prog w base spare held m 63 [u0, u1] = some xs[i] →
      ∃ (sc : List UInt8) (a0 : Option Addr) (cap : Nat) (l : List Val.C), [u0, u1] = [.string ⟨sc.toArray⟩, .slice a0 l.length cap] ∧ FIn w sc a0 cap l := fun i hi3 u0 u1 ht => by
    have hcs := cells_of 3 filter_packed ht (by rw [hc]; rfl)
    rw [filter_leaves] at hcs
    obtain ⟨sc, a0, cap, l, e, rest⟩ := filter_cells (hw i hi3) hcs
    exact ⟨sc, a0, cap, l, e, rest⟩
  match l, hl' with
  | [c0, c1, c2, c3, c4, c5], _ =>
    have h0 := hi 0 (by decide)
    have h1 := hi 1 (by decide)
    have h2 := hi 2 (by decide)
    have l0 : 0 < xs.length := by omega
    have l1 : 1 < xs.length := by omega
    have l2 : 2 < xs.length := by omega
    rw [hc] at h0 h1 h2
    rw [List.getElem?_eq_getElem l0] at h0
    rw [List.getElem?_eq_getElem l1] at h1
    rw [List.getElem?_eq_getElem l2] at h2
    simp only [Value.cells, Nat.zero_mul, Nat.one_mul, Nat.reduceMul, List.drop_zero, List.drop_succ_cons, List.take_succ_cons, List.take_zero] at h0 h1 h2
    obtain ⟨s1, a1, p1, m1, e1, f1⟩ := one 0 l0 _ _ h0
    obtain ⟨s2, a2, p2, m2, e2, f2⟩ := one 1 l1 _ _ h1
    obtain ⟨s3, a3, p3, m3, e3, f3⟩ := one 2 l2 _ _ h2
    simp only [List.cons.injEq, and_true] at e1 e2 e3
    exact ⟨s1, a1, p1, m1, s2, a2, p2, m2, s3, a3, p3, m3, by rw [e1.1, e1.2, e2.1, e2.2, e3.1, e3.2], f1, f2, f3⟩
end
end Go.Proofs.YtdggofleokjmcaaGreatDoor.Open
