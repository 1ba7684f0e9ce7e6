/- A SLICE OF ATTRIBUTES AS AN ARGUMENT. -/
import Derived.Test.YtpbdgbejcdncgaaOpenV
import Derived.Test.YtpbdgbejcdncgaaAttr
namespace Go.Proofs.Ytpbdgbejcdncgaa.Open
open Go.ChangeShapes Go.WideShapes Go.ChangeAt Go.RowKit Go.Deep
def AOk (a : Val.A) : Prop := a.name.length ≤ 140737488351232 ∧ VOk a.val
section
variable {H : Type} {enc : TypeId × Value → H} {w : World} {base : Nat} {spare : Nat → Bool} {held : Bool}
theorem attr_leaves : leaves Try.prog 3 76 = [9, 3, 2, 68, 9, 4] := by kernel_rfl
theorem attr_packed : packed Try.prog 3 76 = true := by kernel_rfl
set_option maxRecDepth 100000 in
theorem open_attrs {r : Reach} {b0 : Nat} {v : Value} {d : DataW H} {p : List MemPlace} (hv : Value.okWide Try.prog w r b0 29 v) (h : DataW.Trod enc Try.prog w base spare held 29 v d p)
    (hr : ∀ k ∈ DataW.weights Try.prog 29 d, k ≤ 140737488351232) : ∃ (a0 : Option Addr) (cap : Nat) (l : List Val.A), v = .slice a0 l.length cap ∧ l.length ≤ cap ∧ cap ≤ maxLen ∧ Val.Attrs w a0 l ∧ (∀ x ∈ l, AOk x) ∧ (a0 = none → l = [] ∧ cap = 0) := by
  have hu : Try.prog.underlying 29 = some (.slice 76) := Try.underlying29
  have hce : Try.prog.cellsOf 76 = 6 := by kernel_rfl
  obtain ⟨a0, ln, cp, rfl⟩ := okWide_slice hu hv
  obtain ⟨fuel, hf⟩ := h
  rcases open_slice hu hf with ⟨h0, _⟩ | ⟨a, len, cap, m, n, D, Pl, h0, hb, hl, hm, hmm, hx, hel⟩
  · have he : (a0 = none ∧ ln = 0 ∧ cp = 0) := by simpa [Value.cells] using h0
    obtain ⟨rfl, rfl, rfl⟩ := he
    exact ⟨none, 0, [], rfl, Nat.le_refl _, Nat.zero_le _, fun i h => absurd h (Nat.not_lt_zero _), fun x hx => (nomatch hx), fun _ => ⟨rfl, rfl⟩⟩
  · have he : (a0 = some a ∧ ln = len ∧ cp = cap) := by simpa [Value.cells] using h0
    obtain ⟨rfl, rfl, rfl⟩ := he
    have hlm : ln ≤ m := by rw [hmm]; split <;> omega
    have each : ∀ i, i < ln → ∃ x : Val.A, Val.AAt w (a.add (i * 6)) x ∧ AOk x := by
      intro i hi
      obtain ⟨cs', h1, h2⟩ := hel i (by omega)
      rw [hce] at h1
      obtain ⟨_, hlen, hcell⟩ := World.cells?_some h1
      have hcs := cells_of 3 attr_packed h2 (by rw [hlen, hce])
      rw [attr_leaves] at hcs
      have hw : ∀ k ∈ DataW.weights Try.prog 76 (D i), k ≤ 140737488351232 := by
        intro k hk
        refine hr k ?_
        have hd : d = .slice ((List.range ln).map D) ((List.range (m - ln)).map fun j => D (ln + j)) := congrArg Prod.fst hx
        rw [hd]
        simp only [DataW.weights, hu]
        exact List.mem_cons_of_mem _ (List.mem_append_left _ (weightsAll_mem (List.mem_map.2 ⟨i, List.mem_range.2 hi, rfl⟩) k hk))
      obtain ⟨v0, u0, e0, hh0, r0⟩ := hcs.cons
      obtain ⟨nm, rfl, w0⟩ := hh0.string Try.underlying9
      obtain ⟨k, nn, x, t, y, us, e, ok, hn⟩ := val_cells hw (ts := []) r0
      rw [hn.nil, List.append_nil] at e
      subst e; subst e0
      refine ⟨⟨nm, ⟨k, nn, x, t, y⟩⟩, ⟨?_, ?_, ?_, ?_, ?_, ?_⟩, hw _ w0, ok⟩
      · exact hcell 0 (by decide)
      · exact hcell 1 (by decide)
      · exact hcell 2 (by decide)
      · exact hcell 3 (by decide)
      · exact hcell 4 (by decide)
      · exact hcell 5 (by decide)
    obtain ⟨F, hF⟩ := choose_lt each
    refine ⟨some a, cp, (List.range ln).map F, by simp, by simpa using hl, hm, fun i hi => ⟨a, rfl, ?_⟩, fun x hx => ?_, fun e => by cases e⟩
    · have hi' : i < ln := by simpa using hi
      have : ((List.range ln).map F)[i] = F i := by simp
      rw [this]
      exact (hF i hi').1
    · obtain ⟨i, hi, rfl⟩ := List.mem_map.1 hx
      exact (hF i (List.mem_range.1 hi)).2
end
end Go.Proofs.Ytpbdgbejcdncgaa.Open
