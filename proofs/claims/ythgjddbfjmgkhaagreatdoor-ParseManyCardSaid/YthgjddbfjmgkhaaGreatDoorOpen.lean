/- OPENING AN ARGUMENT OF STRUCTS WITHIN STRUCTS TO ITS CELLS, cell by cell, each with its own reading and its weights. Over any program. -/
import Derived.WalkKit
import Derived.ProofKit
import Derived.OpenShut
import Derived.SizedLaws
import Derived.Deep.Slices
namespace Go.Proofs.YthgjddbfjmgkhaaGreatDoor.Open
open Go.ChangeShapes Go.WideShapes Go.ChangeAt Go.RowKit Go.Deep

section
variable {H : Type} {enc : TypeId × Value → H} {P : Program} {w : World} {base : Nat} {spare : Nat → Bool} {held : Bool}
/-- the types of a type's cells -/
def leaves (P : Program) : Nat → TypeId → List TypeId
  | 0, t => [t]
  | n + 1, t => match P.underlying t with
    | some (.struct fs) => fs.toList.flatMap fun f => leaves P n f.type
    | _ => [t]
/-- do the fields lie one behind the other? -/
def packedFs (P : Program) (pk : TypeId → Bool) : Nat → List Field → Nat → Bool
  | o, [], e => o == e
  | o, f :: r, e => f.offset == o && pk f.type && packedFs P pk (o + P.cellsOf f.type) r e
def packed (P : Program) : Nat → TypeId → Bool
  | 0, t => match P.underlying t with
    | some (.struct _) => false
    | _ => P.cellsOf t == 1
  | n + 1, t => match P.underlying t with
    | some (.struct fs) => packedFs P (packed P n) 0 fs.toList (P.cellsOf t)
    | _ => P.cellsOf t == 1
/-- cells, each read at its own type; their weights are among those of the whole -/
def Cells (enc : TypeId × Value → H) (P : Program) (w : World) (base : Nat) (spare : Nat → Bool) (held : Bool) (W : List Nat) : List TypeId → List Value → Prop
  | [], [] => True
  | t :: ts, v :: vs => (∃ m y, DataW.trod enc P w base spare held m t [v] = some y ∧ ∀ k ∈ DataW.weights P t y.1, k ∈ W) ∧ Cells enc P w base spare held W ts vs
  | _, _ => False
theorem Cells.append {W : List Nat} : ∀ {ts ts' : List TypeId} {vs vs' : List Value}, Cells enc P w base spare held W ts vs → Cells enc P w base spare held W ts' vs' → Cells enc P w base spare held W (ts ++ ts') (vs ++ vs')
  | [], _, [], _, _, h => h
  | [], _, _ :: _, _, h, _ => h.elim
  | _ :: _, _, [], _, h, _ => h.elim
  | _ :: _, _, _ :: _, _, h, k => ⟨h.1, Cells.append h.2 k⟩
theorem Cells.sub {W W' : List Nat} (hs : ∀ k ∈ W, k ∈ W') : ∀ {ts : List TypeId} {vs : List Value}, Cells enc P w base spare held W ts vs → Cells enc P w base spare held W' ts vs
  | [], [], _ => trivial
  | [], _ :: _, h => h.elim
  | _ :: _, [], h => h.elim
  | _ :: _, _ :: _, ⟨⟨m, y, h1, h2⟩, h3⟩ => ⟨⟨m, y, h1, fun k hk => hs k (h2 k hk)⟩, Cells.sub hs h3⟩
theorem cells_fields {W : List Nat} {n : Nat} {cs : List Value} : ∀ (fs : List Field) (o : Nat), packedFs P (packed P n) o fs cs.length = true →
    (∀ f ∈ fs, Cells enc P w base spare held W (leaves P n f.type) ((cs.drop f.offset).take (P.cellsOf f.type))) → Cells enc P w base spare held W (fs.flatMap fun f => leaves P n f.type) (cs.drop o)
  | [], o, hp, _ => by
    have : o = cs.length := by simpa [packedFs] using hp
    subst this
    simp [Cells]
  | f :: r, o, hp, h => by
    simp only [packedFs, Bool.and_eq_true, beq_iff_eq] at hp
    obtain ⟨⟨h1, _⟩, h3⟩ := hp
    have e : cs.drop o = (cs.drop f.offset).take (P.cellsOf f.type) ++ cs.drop (o + P.cellsOf f.type) := by
      rw [h1, ← List.drop_drop]; exact (List.take_append_drop _ _).symm
    rw [e, List.flatMap_cons]
    exact (h f (by simp)).append (cells_fields r _ h3 (fun g hg => h g (by simp [hg])))
theorem weights_each {ts : List TypeId} : ∀ {ds : List (DataW H)} {i : Nat} {t : TypeId} {d : DataW H}, ts[i]? = some t → ds[i]? = some d → ∀ k ∈ DataW.weights P t d, k ∈ DataW.weightsEach P ts ds := by
  intro ds i t d h1 h2 k hk
  exact DataW.weights_mem_each h1 h2 k hk
/-- A READING OF A TYPE IS A READING OF ITS CELLS. -/
theorem cells_of : ∀ (n : Nat) {t : TypeId} {fuel : Nat} {cs : List Value} {x : DataW H × List MemPlace}, packed P n t = true → DataW.trod enc P w base spare held fuel t cs = some x → cs.length = P.cellsOf t →
    Cells enc P w base spare held (DataW.weights P t x.1) (leaves P n t) cs
  | 0, t, fuel, cs, x, hp, h, hl => by
    have h1 : P.cellsOf t = 1 := by
      unfold packed at hp; split at hp
      · cases hp
      · simpa using hp
    match cs, hl.trans h1 with
    | [v], _ => exact ⟨⟨fuel, x, h, fun _ hk => hk⟩, trivial⟩
  | n + 1, t, fuel, cs, x, hp, h, hl => by
    unfold packed at hp
    unfold leaves
    split at hp
    · rename_i fs hu
      obtain ⟨xs, m, rfl, rfl, hlen, hxl, hf⟩ := DataW.trod_struct hu h
      have := cells_fields (W := DataW.weights P t (.agg (xs.map (·.1)))) (cs := cs) (enc := enc) (w := w) (base := base) (spare := spare) (held := held) (P := P) (n := n) fs.toList 0 (by rw [hlen]; exact hp) (fun f hfm => by
        obtain ⟨i, hi⟩ := List.mem_iff_getElem?.1 hfm
        have hi' : fs[i]? = some f := by simpa using hi
        have hil : i < fs.size := (Array.getElem?_eq_some_iff.1 hi').1
        have hr := hf i f hi'
        have hx : xs[i]? = some (xs[i]'(by omega)) := List.getElem?_eq_getElem (by omega)
        rw [hx] at hr
        have hpk : packed P n f.type = true ∧ f.offset + P.cellsOf f.type ≤ cs.length := by
          have key : ∀ (l : List Field) (o e : Nat), packedFs P (packed P n) o l e = true → o ≤ e ∧ ∀ g ∈ l, packed P n g.type = true ∧ g.offset + P.cellsOf g.type ≤ e := by
            intro l
            induction l with
            | nil => intro o e h; have : o = e := by simpa [packedFs] using h
                     exact ⟨by omega, fun g hg => by cases hg⟩
            | cons a r ih =>
              intro o e h
              simp only [packedFs, Bool.and_eq_true, beq_iff_eq] at h
              obtain ⟨⟨h1, h2⟩, h3⟩ := h
              obtain ⟨k1, k2⟩ := ih _ _ h3
              refine ⟨by omega, fun g hg => ?_⟩
              rcases List.mem_cons.1 hg with rfl | hg
              · exact ⟨h2, by omega⟩
              · exact k2 g hg
          have := (key _ _ _ hp).2 f hfm
          rw [hlen]; exact this
        have hl2 : ((cs.drop f.offset).take (P.cellsOf f.type)).length = P.cellsOf f.type := by
          rw [List.length_take, List.length_drop]; omega
        refine Cells.sub (fun k hk => ?_) (cells_of n hpk.1 hr hl2)
        have e : DataW.weights P t (.agg (xs.map (·.1))) = DataW.weightsEach P (fs.toList.map (·.type)) (xs.map (·.1)) := by
          simp [DataW.weights, hu]
        rw [e]
        exact weights_each (i := i) (t := f.type) (d := (xs[i]'(by omega)).1) (by simp [hi']) (by simp [hx]) k hk)
      simpa using this
    · rename_i hu
      have h1 : P.cellsOf t = 1 := by simpa using hp
      match cs, hl.trans h1 with
      | [v], _ => exact ⟨⟨fuel, x, h, fun _ hk => hk⟩, trivial⟩

/-- one cell's reading -/
def Leaf (enc : TypeId × Value → H) (P : Program) (w : World) (base : Nat) (spare : Nat → Bool) (held : Bool) (W : List Nat) (t : TypeId) (v : Value) : Prop :=
  ∃ m y, DataW.trod enc P w base spare held m t [v] = some y ∧ ∀ k ∈ DataW.weights P t y.1, k ∈ W
theorem Cells.cons {W : List Nat} {t : TypeId} {ts : List TypeId} {vs : List Value} (h : Cells enc P w base spare held W (t :: ts) vs) : ∃ v us, vs = v :: us ∧ Leaf enc P w base spare held W t v ∧ Cells enc P w base spare held W ts us := by
  cases vs with
  | nil => exact h.elim
  | cons v us => exact ⟨v, us, rfl, h.1, h.2⟩
theorem Cells.nil {W : List Nat} {vs : List Value} (h : Cells enc P w base spare held W [] vs) : vs = [] := by
  cases vs with
  | nil => rfl
  | cons v us => exact h.elim
theorem Leaf.int {W : List Nat} {t : TypeId} {v : Value} {k : IntKind} (ht : P.underlying t = some (.int k)) (h : Leaf enc P w base spare held W t v) : ∃ n, v = .int k n ∧ (Lit.int k n).wf = true := by
  obtain ⟨m, y, h1, _⟩ := h
  obtain ⟨n, e, _, hw⟩ := DataW.trod_int ht h1
  exact ⟨n, by simpa using e, hw⟩
theorem Leaf.bool {W : List Nat} {t : TypeId} {v : Value} (ht : P.underlying t = some .bool) (h : Leaf enc P w base spare held W t v) : ∃ b, v = .bool b := by
  obtain ⟨m, y, h1, _⟩ := h
  obtain ⟨n, e, _⟩ := DataW.trod_bool ht h1
  exact ⟨n, by simpa using e⟩
theorem Leaf.float {W : List Nat} {t : TypeId} {v : Value} {k : FloatKind} (ht : P.underlying t = some (.float k)) (h : Leaf enc P w base spare held W t v) : ∃ b, v = .float k b ∧ (Lit.float k b).wf = true := by
  obtain ⟨m, y, h1, _⟩ := h
  cases m with
  | zero => simp [DataW.trod] at h1
  | succ m =>
    unfold DataW.trod at h1
    rw [ht] at h1
    split at h1 <;> simp_all
theorem Leaf.string {W : List Nat} {t : TypeId} {v : Value} (ht : P.underlying t = some .string) (h : Leaf enc P w base spare held W t v) : ∃ l : List UInt8, v = .string ⟨l.toArray⟩ ∧ l.length ∈ W := by
  obtain ⟨m, y, h1, h2⟩ := h
  obtain ⟨s, e, rfl, hm⟩ := DataW.trod_string ht h1
  refine ⟨s.data.toList, by simpa using e, h2 _ (by simp [DataW.weights])⟩
/-- a struct argument's cells -/
theorem arg_cells {r : Reach} {b0 : Nat} {t : TypeId} {fs : Array Field} {v : Value} {d : DataW H} {p : List MemPlace} (n : Nat) (hs : P.underlying t = some (.struct fs)) (hp : packed P n t = true)
    (hv : Value.okWide P w r b0 t v) (h : DataW.Trod enc P w base spare held t v d p) : ∃ cs, v = .agg cs ∧ Cells enc P w base spare held (DataW.weights P t d) (leaves P n t) cs.toList := by
  obtain ⟨cs, rfl, hsz⟩ := okWide_struct hs hv
  obtain ⟨fuel, hf⟩ := h
  exact ⟨cs, rfl, cells_of n hp hf (by simpa [Value.cells] using hsz)⟩
/-- the reach, of each weight of an argument -/
theorem reach_of {ts : List TypeId} {ds : List (DataW H)} (h : (DataW.weightsEach P ts ds).all (· ≤ reachBytes) = true) {j : Nat} {t : TypeId} {d : DataW H} (ht : ts[j]? = some t) (hd : ds[j]? = some d) : ∀ k ∈ DataW.weights P t d, k ≤ 140737488351232 := by
  intro k hk
  have := List.all_eq_true.1 h k (DataW.weights_mem_each ht hd k hk)
  exact of_decide_eq_true this
end
end Go.Proofs.YthgjddbfjmgkhaaGreatDoor.Open
