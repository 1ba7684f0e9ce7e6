/- A SLICE OF NAMES AS AN ARGUMENT. -/
import Derived.Test.YtdggofleokjmcaaGreatDoorOpenV
import Derived.Test.YtdggofleokjmcaaGreatDoorWithout
import Derived.SliceStrings
namespace Go.Proofs.YtdggofleokjmcaaGreatDoor.Open
open Go.ChangeShapes Go.WideShapes Go.ChangeAt Go.RowKit Go.Deep
section
variable {H : Type} {enc : TypeId × Value → H} {w : World} {base : Nat} {spare : Nat → Bool} {held : Bool}
set_option maxRecDepth 100000 in
theorem open_names {r : Reach} {b0 : Nat} {v : Value} {d : DataW H} {p : List MemPlace} (hv : Value.okWide Tryz.prog w r b0 48 v) (h : DataW.Trod enc Tryz.prog w base spare held 48 v d p) :
    ∃ (o : Option Addr) (cap : Nat) (zs : List ByteArray), v = .slice o zs.length cap ∧ zs.length ≤ cap ∧ cap ≤ maxLen ∧ Val.NamesO w o zs := by
  have hu : Tryz.prog.underlying 48 = some (.slice 9) := Tryz.underlying48
  have hce : Tryz.prog.cellsOf 9 = 1 := by kernel_rfl
  obtain ⟨a0, ln, cp, rfl⟩ := okWide_slice hu hv
  obtain ⟨fuel, hf⟩ := h
  rcases open_strings hu Tryz.underlying9 hce hf with ⟨h0, _⟩ | ⟨a, len, cap, ss, h0, _, hl, hm, hsl, _, hcell, _⟩
  · have he : (a0 = none ∧ ln = 0 ∧ cp = 0) := by simpa [Value.cells] using h0
    obtain ⟨rfl, rfl, rfl⟩ := he
    exact ⟨none, 0, [], rfl, Nat.le_refl _, Nat.zero_le _, Or.inl rfl⟩
  · have he : (a0 = some a ∧ ln = len ∧ cp = cap) := by simpa [Value.cells] using h0
    obtain ⟨rfl, rfl, rfl⟩ := he
    have hls : ln ≤ ss.length := by rw [hsl]; split <;> omega
    have htl : (ss.take ln).length = ln := by rw [List.length_take]; omega
    refine ⟨some a, cp, ss.take ln, by rw [htl], by rw [htl]; exact hl, hm, ?_⟩
    by_cases h1 : ln = 0
    · left; subst h1; rfl
    · right
      have hc0 := hcell 0 (by omega)
      obtain ⟨b, off, sp⟩ := a
      have hsp : sp = none := by simpa [Addr.add] using World.cell?_spot hc0
      subst hsp
      refine ⟨b, off, rfl, fun j hj => ?_⟩
      rw [htl] at hj
      have hcj := hcell j (by omega)
      have hadd : (⟨b, off, none⟩ : Addr).add j = ⟨b, off + j, none⟩ := by unfold Addr.add; split <;> simp_all
      rw [hadd] at hcj
      rw [hcj]
      congr 2
      simp only [List.getD_eq_getElem?_getD, List.getElem?_take, hj, if_true]
end
end Go.Proofs.YtdggofleokjmcaaGreatDoor.Open
