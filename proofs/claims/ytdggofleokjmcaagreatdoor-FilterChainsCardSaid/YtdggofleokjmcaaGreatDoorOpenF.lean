/- A FILTER AS AN ARGUMENT. -/
import Derived.Test.YtdggofleokjmcaaGreatDoorOpenA
import Derived.Test.YtdggofleokjmcaaGreatDoorConds
namespace Go.Proofs.YtdggofleokjmcaaGreatDoor.Open
open Go.ChangeShapes Go.WideShapes Go.ChangeAt Go.RowKit Go.Deep
def COk (c : Val.C) : Prop := CondOk c.name c.op c.val.kind c.val.int c.val.num c.val.text
section
variable {H : Type} {enc : TypeId × Value → H} {w : World} {base : Nat} {spare : Nat → Bool} {held : Bool}
set_option maxRecDepth 100000 in
theorem leaf_conds {W : List Nat} (hr : ∀ k ∈ W, k ≤ 140737488351232) {v : Value} (h : Leaf enc Tryz.prog w base spare held W 61 v) :
    ∃ (a0 : Option Addr) (cap : Nat) (l : List Val.C), v = .slice a0 l.length cap ∧ l.length ≤ cap ∧ cap ≤ maxLen ∧ Val.Conds w a0 l ∧ (∀ x ∈ l, COk x) ∧ (a0 = none → l = [] ∧ cap = 0) := by
  have hu : Tryz.prog.underlying 61 = some (.slice 55) := Tryz.underlying61
  have hce : Tryz.prog.cellsOf 55 = 7 := by kernel_rfl
  obtain ⟨fuel, ⟨d, pp⟩, hf, hW⟩ := h
  rcases open_slice hu hf with ⟨h0, _⟩ | ⟨a, len, cap, m, n, D, Pl, h0, hb, hl, hm, hmm, hx, hel⟩
  · have he : v = .slice none 0 0 := by simpa using h0
    subst he
    exact ⟨none, 0, [], rfl, Nat.le_refl _, Nat.zero_le _, fun _ h => absurd h (Nat.not_lt_zero _), fun _ hx => (nomatch hx), fun _ => ⟨rfl, rfl⟩⟩
  · have he : v = .slice (some a) len cap := by simpa using h0
    subst he
    have hlm : len ≤ m := by rw [hmm]; split <;> omega
    have each : ∀ i, i < len → ∃ x : Val.C, Val.CAt w (a.add (i * 7)) x ∧ COk x := by
      intro i hi
      obtain ⟨cs', h1, h2⟩ := hel i (by omega)
      rw [hce] at h1
      obtain ⟨_, hlen, hcell⟩ := World.cells?_some h1
      have hcs := cells_of 3 cond_packed h2 (by rw [hlen, hce])
      rw [cond_leaves] at hcs
      have hw : ∀ k ∈ DataW.weights Tryz.prog 55 (D i), k ≤ 140737488351232 := by
        intro k hk
        refine hr k (hW k ?_)
        have hd : d = .slice ((List.range len).map D) ((List.range (m - len)).map fun j => D (len + j)) := congrArg Prod.fst hx
        rw [hd]
        simp only [DataW.weights, hu]
        exact List.mem_cons_of_mem _ (List.mem_append_left _ (weightsAll_mem (List.mem_map.2 ⟨i, List.mem_range.2 hi, rfl⟩) k hk))
      obtain ⟨nm, op, k, nn, x, t, y, us, e, ok, hn⟩ := cond_cells hw (ts := []) hcs
      rw [hn.nil, List.append_nil] at e
      subst e
      refine ⟨⟨nm, op, ⟨k, nn, x, t, y⟩⟩, ⟨?_, ?_, ?_, ?_, ?_, ?_, ?_⟩, ok⟩
      · exact hcell 0 (by decide)
      · exact hcell 1 (by decide)
      · exact hcell 2 (by decide)
      · exact hcell 3 (by decide)
      · exact hcell 4 (by decide)
      · exact hcell 5 (by decide)
      · exact hcell 6 (by decide)
    obtain ⟨F, hF⟩ := choose_lt each
    refine ⟨some a, cap, (List.range len).map F, by simp, by simpa using hl, hm, fun i hi => ⟨a, rfl, ?_⟩, fun x hx => ?_, fun e => by cases e⟩
    · have hi' : i < len := by simpa using hi
      have : ((List.range len).map F)[i] = F i := by simp
      rw [this]
      exact (hF i hi').1
    · obtain ⟨i, hi, rfl⟩ := List.mem_map.1 hx
      exact (hF i (List.mem_range.1 hi)).2
theorem filter_leaves : leaves Tryz.prog 3 63 = [9, 61] := by kernel_rfl
theorem filter_packed : packed Tryz.prog 3 63 = true := by kernel_rfl
theorem filter_cells {W : List Nat} (hr : ∀ k ∈ W, k ≤ 140737488351232) {vs : List Value} (h : Cells enc Tryz.prog w base spare held W [9, 61] vs) :
    ∃ (sc : List UInt8) (a0 : Option Addr) (cap : Nat) (l : List Val.C), vs = [.string ⟨sc.toArray⟩, .slice a0 l.length cap] ∧ sc.length ≤ 140737488351232 ∧ l.length ≤ cap ∧ cap ≤ maxLen ∧ Val.Conds w a0 l ∧ (∀ x ∈ l, COk x) ∧ (a0 = none → l = [] ∧ cap = 0) := by
  obtain ⟨v0, u0, rfl, h0, r0⟩ := h.cons
  obtain ⟨v1, u1, rfl, h1, r1⟩ := r0.cons
  obtain ⟨sc, rfl, w0⟩ := h0.string Tryz.underlying9
  obtain ⟨a0, cap, l, rfl, q, m, s, k, n⟩ := leaf_conds hr h1
  exact ⟨sc, a0, cap, l, by rw [r1.nil], hr _ w0, q, m, s, k, n⟩
set_option maxRecDepth 100000 in
theorem open_filter {r : Reach} {b0 : Nat} {v : Value} {d : DataW H} {p : List MemPlace} (hv : Value.okWide Tryz.prog w r b0 63 v) (h : DataW.Trod enc Tryz.prog w base spare held 63 v d p)
    (hr : ∀ k ∈ DataW.weights Tryz.prog 63 d, k ≤ 140737488351232) :
    ∃ (sc : List UInt8) (a0 : Option Addr) (cap : Nat) (l : List Val.C), v = .agg #[.string ⟨sc.toArray⟩, .slice a0 l.length cap] ∧ sc.length ≤ 140737488351232 ∧ l.length ≤ cap ∧ cap ≤ maxLen ∧ Val.Conds w a0 l ∧ (∀ x ∈ l, COk x) ∧ (a0 = none → l = [] ∧ cap = 0) := by
  obtain ⟨cs, rfl, hc⟩ := arg_cells 3 Tryz.underlying63 filter_packed hv h
  rw [filter_leaves] at hc
  obtain ⟨sc, a0, cap, l, e, rest⟩ := filter_cells hr hc
  exact ⟨sc, a0, cap, l, by rw [← e], rest⟩
end
end Go.Proofs.YtdggofleokjmcaaGreatDoor.Open
