/- AN ARRAY OF TWO STRINGS AS AN ARGUMENT. -/
import Derived.Test.YtdggofleokjmcaaGreatDoorOpenA
namespace Go.Proofs.YtdggofleokjmcaaGreatDoor.Open
open Go.ChangeShapes Go.WideShapes Go.ChangeAt Go.RowKit Go.Deep
section
variable {H : Type} {enc : TypeId × Value → H} {w : World} {base : Nat} {spare : Nat → Bool} {held : Bool}
set_option maxRecDepth 100000 in
theorem open_two {r : Reach} {b0 : Nat} {v : Value} {d : DataW H} {p : List MemPlace} (hv : Value.okWide Tryz.prog w r b0 38 v) (h : DataW.Trod enc Tryz.prog w base spare held 38 v d p)
    (hr : ∀ k ∈ DataW.weights Tryz.prog 38 d, k ≤ 140737488351232) : ∃ s t : List UInt8, v = .agg #[.string ⟨s.toArray⟩, .string ⟨t.toArray⟩] ∧ s.length ≤ 140737488351232 ∧ t.length ≤ 140737488351232 := by
  have hu : Tryz.prog.underlying 38 = some (.array 2 9) := Tryz.underlying38
  have hc : Tryz.prog.cellsOf 9 = 1 := by kernel_rfl
  have hc2 : Tryz.prog.cellsOf 38 = 2 := by kernel_rfl
  have hagg : ∃ cs, v = .agg cs := by
    simp only [Value.okWide, hu] at hv
    obtain ⟨cs, h, _⟩ := hv
    exact ⟨cs, h⟩
  obtain ⟨cs, rfl⟩ := hagg
  obtain ⟨fuel, hf⟩ := h
  obtain ⟨xs, m, _, hxd, hl, hx, hi⟩ := DataW.trod_array hu hf
  rw [hc2] at hl
  obtain ⟨l⟩ := cs
  have hl' : l.length = 2 := by simpa [Value.cells] using hl
  have hd : d = .agg (xs.map (·.1)) := congrArg Prod.fst hxd
  have hw : ∀ i (hi : i < xs.length), ∀ k ∈ DataW.weights Tryz.prog 9 (xs[i]).1, k ≤ 140737488351232 := fun i hi k hk => by
    refine hr k ?_
    rw [hd]
    simp only [DataW.weights, hu]
    exact weightsAll_mem (List.mem_map.2 ⟨xs[i], List.getElem_mem hi, rfl⟩) k hk
  match l, hl' with
  | [c0, c1], _ =>
    have h0 := hi 0 (by decide)
    have h1 := hi 1 (by decide)
    have l0 : 0 < xs.length := by omega
    have l1 : 1 < xs.length := by omega
    rw [hc] at h0 h1
    rw [List.getElem?_eq_getElem l0] at h0
    rw [List.getElem?_eq_getElem l1] at h1
    simp only [Value.cells, Nat.zero_mul, Nat.one_mul, List.drop_zero, List.drop_succ_cons, List.take_succ_cons, List.take_zero] at h0 h1
    obtain ⟨a, e0, x0, _⟩ := DataW.trod_string Tryz.underlying9 h0
    obtain ⟨b, e1, x1, _⟩ := DataW.trod_string Tryz.underlying9 h1
    simp only [List.cons.injEq, and_true] at e0 e1
    have w0 := hw 0 l0
    have w1 := hw 1 l1
    rw [x0] at w0
    rw [x1] at w1
    exact ⟨a.data.toList, b.data.toList, by rw [e0, e1], w0 _ (by simp [DataW.weights]), w1 _ (by simp [DataW.weights])⟩
end
end Go.Proofs.YtdggofleokjmcaaGreatDoor.Open
