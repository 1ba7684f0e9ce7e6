/- A RANGE OVER A FUNCTION WHOSE ITERATOR KEEPS STATE IN A CELL OF ITS OWN: the statement, walked by the kit's base law, for an iterator that tells a fixed list from its head on and writes one captured cell between two rounds. -/
import Derived.RangeFuncFrom
import Derived.RangeFuncBox
namespace Go.Proofs.Ytpmgooefkkbpbaa.Rg
open Go Go.RowKit
/-- a store into block b's first cell leaves J as it is -/
def Bears {β : Type} (b : Nat) (J : β → World → Prop) : Prop := ∀ s W v, J s W → J s (W.setCell ⟨b, 0, none⟩ v)
/-- AN ITERATOR THAT TELLS L, and keeps where it stands in block b -/
def Tells {α : Type} (F : Fence) (n : Nat) (P : Program) (g : Nat) (lb : Array Value) (encs : α → Array Value) (L : List α) (b : Nat) (w : World) : Prop :=
  ∀ (l : Nat) (J Jx : List α → World → Prop) (W : World), Below w.heap.size w W → AbidesFrom W.heap.size J → AbidesFrom W.heap.size Jx → Bears b J → Bears b Jx →
    (∀ pre x W1, J pre W1 → (pre ++ [x]) <+: L → YieldAt F (n - 1) P l (encs x) W1 fun e W2 =>
      (e = .returned (.bool true) ∧ J (pre ++ [x]) W2 ∧ W2.heap[b]? = W1.heap[b]?) ∨ (e = .returned (.bool false) ∧ Jx (pre ++ [x]) W2)) →
    J [] W →
    CallsIn F n P g (#[.func (.yield l) #[] #[]] ++ lb) W fun e W2 => (∃ v, e = .returned v) ∧ (J L W2 ∨ ∃ pre, pre <+: L ∧ Jx pre W2)
theorem heap_set (W : World) (b k : Nat) (v : Value) (o : Obj) (hc : o.isCells = false) (h : W.heap[k]? = some o) : (W.setCell ⟨b, 0, none⟩ v).heap[k]? = some o := (KeepsOthers.setCell W ⟨b, 0, none⟩ v).same k o h hc
variable {F : Fence} {n : Nat} {P : Program}
theorem wpIn_range_cell {α : Type} {g : Operand} {ps : Array Tmp} {assign body : Code} {Q : Exit → Act → World → Prop} {a : Act} {w : World}
    (hro : F.round = none) (h1 : 1 ≤ n) {gf : Nat} {lb : Array Value} (hg : a.eval g = .func (.func gf) #[] lb) (hFg : F.fn gf) (eg : ∀ args w, (callFunc gf args).run P w = .ok (.enter gf args) w)
    {encs : α → Array Value} {L : List α} {b : Nat} (hb : b < w.heap.size) (hseq : Tells F (n - 1) P gf lb encs L b w) (hps : ∀ x, (encs x).size = ps.size)
    (I : List α → World → Prop) (Ix : Code → List α → World → Prop) (hI : OwnFrom w.heap.size I) (hIx : ∀ c, OwnFrom w.heap.size (Ix c)) (hbI : Bears b I) (hbx : ∀ c, Bears b (Ix c)) (h0 : I [] w) (a₁ : α → Act)
    (hassign : ∀ (l : Nat) (x : α) (W : World) (K : Act → World → Prop), K (a₁ x) W →
      assign.wpIn (F.inRound l) (n - 1 - 1) P (Exit.then K (fun _ _ _ => False)) { tmps := (ps.zip (encs x)).foldl (fun t (p, v) => t.setIfInBounds p v) a.tmps, defers := [] } W)
    (hbody : ∀ (l : Nat) (pre : List α) (x : α) (W : World), I pre W → (pre ++ [x]) <+: L → body.wpIn (F.inRound l) (n - 1 - 1) P (ownPostK (fun A B => B.heap[b]? = A.heap[b]?) I Ix (pre ++ [x]) W) (a₁ x) W)
    (hdone : ∀ (D : Nat) (W : World), w.heap.size ≤ D → I L W → W.heap[D]? = some (.deferred (some [])) → Q .normal { a with defers := { target := .collected D, args := #[] } :: a.defers } W)
    (hstop : ∀ (D : Nat) (c : Code) (pre : List α) (W : World), w.heap.size ≤ D → pre <+: L → Ix c pre W → W.heap[D]? = some (.deferred (some [])) → c.wpIn F n P Q { a with defers := { target := .collected D, args := #[] } :: a.defers } W) :
    (Code.rangeFunc g ps assign body).wpIn F n P Q a w := by
  refine wpIn_rangeFunc fun fn hfn => ?_
  rw [hro]
  let R : LoopState → Option Code → Obj := fun st pe => .loop { state := st, pending := pe, fn, tmps := a.tmps, params := ps, assign, body, defers := w.heap.size }
  have hsz : (w.alloc (.deferred (some []))).heap.size = w.heap.size + 1 := by simp
  generalize hV : (w.alloc (.deferred (some []))).alloc (R .ready none) = V
  have hrec : V.heap[w.heap.size + 1]? = some (R .ready none) := by rw [← hV, ← hsz]; exact World.alloc_heap_new _ _
  have hdef : V.heap[w.heap.size]? = some (.deferred (some [])) := by rw [← hV]; exact (Below.heap_alloc _ _ _ (by simp)).trans (World.alloc_heap_new w _)
  have hIV : I [] V := by rw [← hV]; exact hI.alloc _ (hI.alloc _ h0)
  have hbV : Below w.heap.size w V := by rw [← hV]; exact ((Below.refl _ w).alloc (Nat.le_refl _) _).alloc (by simp) _
  have hVs : V.heap.size = w.heap.size + 2 := by rw [← hV]; simp
  refine ⟨w.heap.size + 1, [{ target := .collected w.heap.size, args := #[] }], V, { target := .fn (.func gf) lb, args := #[.func (.yield (w.heap.size + 1)) #[] #[]] }, V, gf, #[.func (.yield (w.heap.size + 1)) #[] #[]] ++ lb, V, by rw [← hV]; exact run_enterLoop_outer _ _ _ _ _, ?_, ?_, ?_, fun _ => h1, ?_⟩
  · simp only [resolve, hg]; simp [go_sem]
  · intro f2 h2; simp [Target.leads] at h2; subst h2; exact hFg
  · simp [invoke, go_sem, eg]
  -- the two objects of the loop's own stand beside the invariant
  have far : ∀ {A B : World} {row : Option Nat}, (∀ r, row = some r → V.heap.size ≤ r ∧ ∃ o : Obj, A.heap[r]? = some o ∧ o.isWalk = true) → ∀ r, row = some r → w.heap.size ≤ r ∧ ∃ o : Obj, A.heap[r]? = some o ∧ o.isCells = false :=
    fun h r e => by obtain ⟨h2, o, h3, h4⟩ := h r e; exact ⟨by omega, o, h3, Obj.not_cells_of_walk h4⟩
  have keep : ∀ {A B : World} {row : Option Nat} {k : Nat} {o : Obj}, A.grownBy B row → (∀ r, row = some r → V.heap.size ≤ r ∧ ∃ o : Obj, A.heap[r]? = some o ∧ o.isWalk = true) → A.heap[k]? = some o → o.isWalk = false → B.heap[k]? = some o :=
    fun hg2 h hk ho => (grownBy_keeps hg2 (fun r e => (h r e).2) hk ho).trans hk
  refine (hseq (w.heap.size + 1) (fun pre W => I pre W ∧ W.heap[w.heap.size + 1]? = some (R .ready none) ∧ W.heap[w.heap.size]? = some (.deferred (some [])))
    (fun pre W => ∃ c, Ix c pre W ∧ W.heap[w.heap.size + 1]? = some (R .done (some c)) ∧ W.heap[w.heap.size]? = some (.deferred (some []))) V hbV
    (fun s A B row h hg2 hr => ⟨hI s A B row h.1 hg2 (far (B := B) hr), keep hg2 hr h.2.1 rfl, keep hg2 hr h.2.2 rfl⟩)
    (fun s A B row ⟨c, h1, h2, h3⟩ hg2 hr => ⟨c, hIx c s A B row h1 hg2 (far (B := B) hr), keep hg2 hr h2 rfl, keep hg2 hr h3 rfl⟩)
    (fun s W v h => ⟨hbI s W v h.1, heap_set _ _ _ _ _ rfl h.2.1, heap_set _ _ _ _ _ rfl h.2.2⟩)
    (fun s W v ⟨c, h1, h2, h3⟩ => ⟨c, hbx c s W v h1, heap_set _ _ _ _ _ rfl h2, heap_set _ _ _ _ _ rfl h3⟩)
    ?_ ⟨hIV, hrec, hdef⟩).mono ?_
  · rintro pre x W ⟨hi, hl, hk⟩ hx
    have lt1 : w.heap.size + 1 < W.heap.size := (Array.getElem?_eq_some_iff.1 hl).1
    refine ⟨fn, _, assign, body, run_yield (P := P) (args := encs x) hl (hps x), roundIn_of_wpIn hfn (hassign _ x W _ ⟨_, run_beginRound hl rfl, ?_⟩)⟩
    have hl2 : (W.putObj (w.heap.size + 1) (R .busy none)).heap[w.heap.size + 1]? = some (R .busy none) := World.putObj_heap_same lt1
    have hk2 : (W.putObj (w.heap.size + 1) (R .busy none)).heap[w.heap.size]? = some (.deferred (some [])) := (World.putObj_heap_other (by omega)).trans hk
    refine wpIn_mono (hbody _ pre x _ (hI.putObj _ hi (by omega) hl rfl) hx) ?_
    -- the end of a round
    have fin : ∀ (j : Option Code) (W3 : World), KeepsOthers (W.putObj (w.heap.size + 1) (R .busy none)) W3 →
        W3.heap[w.heap.size + 1]? = some (R .busy none) ∧
        (Instr.endRound (w.heap.size + 1) j).run P W3 = .ok (.bool j.isNone) (W3.putObj (w.heap.size + 1) (R (if j.isNone then .ready else .done) j)) ∧
        (W3.putObj (w.heap.size + 1) (R (if j.isNone then .ready else .done) j)).heap[w.heap.size + 1]? = some (R (if j.isNone then .ready else .done) j) ∧
        (W3.putObj (w.heap.size + 1) (R (if j.isNone then .ready else .done) j)).heap[w.heap.size]? = some (.deferred (some [])) := fun j W3 h3 => by
      have q := h3.same _ _ hl2 rfl
      exact ⟨q, run_endRound (P := P) j q, World.putObj_heap_same (Array.getElem?_eq_some_iff.1 q).1, (World.putObj_heap_other (by omega)).trans (h3.same _ _ hk2 rfl)⟩
    rintro e a3 W3 hp
    cases e with
    | normal =>
      obtain ⟨h3, hb3, hi3⟩ := hp
      obtain ⟨q0, q1, q2, q3⟩ := fin none W3 h3
      refine ⟨_, _, q1, .inl ⟨rfl, ⟨hI.putObj _ hi3 (by omega) q0 rfl, q2, q3⟩, ?_⟩⟩
      exact (World.putObj_heap_other (by omega)).trans (hb3.trans (World.putObj_heap_other (by omega)))
    | ret =>
      obtain ⟨h3, hi3⟩ := hp
      obtain ⟨q0, q1, q2, q3⟩ := fin (some .ret) W3 h3
      exact ⟨_, _, q1, .inr ⟨rfl, .ret, (hIx _).putObj _ hi3 (by omega) q0 rfl, q2, q3⟩⟩
    | exit id =>
      obtain ⟨h3, hi3⟩ := hp
      obtain ⟨q0, q1, q2, q3⟩ := fin (some (.exit id)) W3 h3
      exact ⟨_, _, q1, .inr ⟨rfl, .exit id, (hIx _).putObj _ hi3 (by omega) q0 rfl, q2, q3⟩⟩
    | goto t =>
      obtain ⟨h3, hi3⟩ := hp
      obtain ⟨q0, q1, q2, q3⟩ := fin (some (.goto t)) W3 h3
      exact ⟨_, _, q1, .inr ⟨rfl, .goto t, (hIx _).putObj _ hi3 (by omega) q0 rfl, q2, q3⟩⟩
    | panic ch => exact hp.elim
    | outgrown => exact hp.elim
  · rintro e W2 ⟨⟨v, rfl⟩, ⟨hi, hl, hk⟩ | ⟨pre, hpre, c, hi, hl, hk⟩⟩
    · exact ⟨none, _, run_endLoop (P := P) hl (by simp), hdone _ _ (Nat.le_refl _) (hI.putObj _ hi (by omega) hl rfl) ((World.putObj_heap_other (by omega)).trans hk)⟩
    · exact ⟨some c, _, run_endLoop (P := P) hl (by simp), hstop _ c pre _ (Nat.le_refl _) hpre ((hIx c).putObj _ hi (by omega) hl rfl) ((World.putObj_heap_other (by omega)).trans hk)⟩
end Go.Proofs.Ytpmgooefkkbpbaa.Rg
