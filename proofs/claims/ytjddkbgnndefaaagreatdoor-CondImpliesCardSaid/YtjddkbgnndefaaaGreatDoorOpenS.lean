/- A SLICE OF VALUES AS AN ARGUMENT. -/
import Derived.Test.YtjddkbgnndefaaaGreatDoorOpenG
import Derived.Test.YtjddkbgnndefaaaGreatDoorValFn
import Derived.Deep.Slices
namespace Go.Proofs.YtjddkbgnndefaaaGreatDoor.Open
open Go.ChangeShapes Go.WideShapes Go.ChangeAt Go.RowKit Go.Deep
/-- one value's five cells -/
def VAt (w : World) (a : Addr) (v : Val.V) : Prop :=
  w.cell? a = some (.int .i64 v.kind) ∧ w.cell? ⟨a.block, a.off + 1, none⟩ = some (.int .i64 v.int) ∧ w.cell? ⟨a.block, a.off + 2, none⟩ = some (.float .f64 v.num) ∧ w.cell? ⟨a.block, a.off + 3, none⟩ = some (.string ⟨v.text.toArray⟩) ∧ w.cell? ⟨a.block, a.off + 4, none⟩ = some (.bool v.yes)
def VOk (v : Val.V) : Prop := ValOk v.kind v.int v.num v.text
/-- a slice of values as it lies -/
def Vals (w : World) (v : Value) (l : List Val.V) : Prop :=
  ∃ (a0 : Option Addr) (cap : Nat), v = .slice a0 l.length cap ∧ l.length ≤ cap ∧ cap ≤ maxLen ∧ ∀ i (h : i < l.length), ∃ a, a0 = some a ∧ VAt w (a.add (i * 5)) l[i]
instance : Inhabited Val.V := ⟨⟨0, 0, 0, [], false⟩⟩
section
variable {H : Type} {enc : TypeId × Value → H} {w : World} {base : Nat} {spare : Nat → Bool} {held : Bool}
theorem weightsAll_mem {P : Program} {e : TypeId} : ∀ {l : List (DataW H)} {d : DataW H}, d ∈ l → ∀ n ∈ d.weights P e, n ∈ DataW.weightsAll P e l
  | d0 :: l, d, hd, n, hn => by
    rw [DataW.weightsAll, List.mem_append]
    rcases List.mem_cons.1 hd with rfl | hd
    · exact Or.inl hn
    · exact Or.inr (weightsAll_mem hd n hn)
set_option maxRecDepth 100000 in
theorem open_vals {r : Reach} {b0 : Nat} {v : Value} {d : DataW H} {p : List MemPlace} (hv : Value.okWide Tryz.prog w r b0 43 v) (h : DataW.Trod enc Tryz.prog w base spare held 43 v d p)
    (hr : ∀ k ∈ DataW.weights Tryz.prog 43 d, k ≤ 140737488351232) : ∃ l : List Val.V, Vals w v l ∧ (∀ x ∈ l, VOk x) ∧ (∀ n c, v = .slice none n c → n = 0 ∧ c = 0) := by
  have hu : Tryz.prog.underlying 43 = some (.slice 24) := Tryz.underlying43
  have hce : Tryz.prog.cellsOf 24 = 5 := by kernel_rfl
  obtain ⟨a0, ln, cp, rfl⟩ := okWide_slice hu hv
  obtain ⟨fuel, hf⟩ := h
  rcases open_slice hu hf with ⟨h0, _⟩ | ⟨a, len, cap, m, n, D, Pl, h0, hb, hl, hm, hmm, hx, hel⟩
  · refine ⟨[], ⟨none, 0, ?_, Nat.le_refl _, Nat.zero_le _, fun i h => absurd h (Nat.not_lt_zero _)⟩, fun x hx => (nomatch hx), fun n c e => ?_⟩
    · simpa [Value.cells] using h0
    · have he : (a0 = none ∧ ln = 0 ∧ cp = 0) := by simpa [Value.cells] using h0
      obtain ⟨rfl, rfl, rfl⟩ := he
      cases e; exact ⟨rfl, rfl⟩
  · have he : (a0 = some a ∧ ln = len ∧ cp = cap) := by simpa [Value.cells] using h0
    obtain ⟨rfl, rfl, rfl⟩ := he
    have hlm : ln ≤ m := by rw [hmm]; split <;> omega
    have each : ∀ i, i < ln → ∃ x : Val.V, VAt w (a.add (i * 5)) x ∧ VOk x := by
      intro i hi
      obtain ⟨cs', h1, h2⟩ := hel i (by omega)
      rw [hce] at h1
      obtain ⟨_, hlen, hcell⟩ := World.cells?_some h1
      have hcs := cells_of 3 val_packed h2 (by rw [hlen, hce])
      rw [val_leaves] at hcs
      have hw : ∀ k ∈ DataW.weights Tryz.prog 24 (D i), k ≤ 140737488351232 := by
        intro k hk
        refine hr k ?_
        have hd : d = .slice ((List.range ln).map D) ((List.range (m - ln)).map fun j => D (ln + j)) := congrArg Prod.fst hx
        rw [hd]
        simp only [DataW.weights, hu]
        exact List.mem_cons_of_mem _ (List.mem_append_left _ (weightsAll_mem (List.mem_map.2 ⟨i, List.mem_range.2 hi, rfl⟩) k hk))
      obtain ⟨k, nn, x, t, y, us, e, ok, hn⟩ := val_cells hw (ts := []) hcs
      rw [hn.nil, List.append_nil] at e
      subst e
      refine ⟨⟨k, nn, x, t, y⟩, ⟨?_, ?_, ?_, ?_, ?_⟩, ok⟩
      · exact hcell 0 (by decide)
      · exact hcell 1 (by decide)
      · exact hcell 2 (by decide)
      · exact hcell 3 (by decide)
      · exact hcell 4 (by decide)
    obtain ⟨F, hF⟩ := choose_lt each
    refine ⟨(List.range ln).map F, ⟨some a, cp, by simp, by simpa using hl, hm, fun i hi => ⟨a, rfl, ?_⟩⟩, fun x hx => ?_, fun n c e => by cases e⟩
    · have hi' : i < ln := by simpa using hi
      have : ((List.range ln).map F)[i] = F i := by simp
      rw [this]
      exact (hF i hi').1
    · obtain ⟨i, hi, rfl⟩ := List.mem_map.1 hx
      exact (hF i (List.mem_range.1 hi)).2
end
end Go.Proofs.YtjddkbgnndefaaaGreatDoor.Open
