/- MERGED BY A PROGRAM OF MINE (pmg.py) out of my own texts, pruned, in their order: Frame, Open, OpenG, OpenV, NameFn, Name, CondFit, CondVoid, Canon, Attr, Match, Conds, OpenF, ParseFl, PfLaid, Pf1, NtA, NtB, NtC, NtD, NtE, NtF, Pf2, NtG, NtH, Pf3, PfE1. -/
import Derived.Test.YtnccpddjdgndcaaGreatDoorCards
import Derived.Test.YtnccpddjdgndcaaGreatDoorTie
import Derived.LaidMore
import Derived.Lay
import Derived.SevenTiedAt
import Derived.Stop.Joined
import Derived.Test.YtnccpddjdgndcaaGreatDoorValFn
import Derived.Laws.AppendOwn
import Derived.Lib.SlicesS
import Derived.Laws.CopyRow
import Derived.Laws.CopyOwn
import Derived.Lib.AppendZerosOnto
import Derived.Lib.Overlaps
import Derived.Laws.OwnMore
import Derived.Deep.RegionLaw
import Derived.Shelf.Spec.SlicesInsert
import Derived.Test.YtnccpddjdgndcaaGreatDoorRows
import Derived.WalkKit
import Derived.ProofKit
import Derived.OpenShut
import Derived.OpenVars
import Derived.SizedLaws
import Derived.Deep.Slices
import Derived.WalkSpells
import Derived.WalkLawsBesides
import Derived.Lib.Hide
import Derived.Lib.IndexBytes
import Derived.Test.YtnccpddjdgndcaaGreatDoorCond
import Derived.RegionCalls
import Derived.Deep.RegionWith
import Derived.Deep.RegionHeld3
import Derived.Handy
import Derived.Laws.IdiomCopy
import Derived.Test.YtnccpddjdgndcaaGreatDoorTabs
import Derived.Laws.Cover2
import Derived.WalkMore
import Derived.Test.YtnccpddjdgndcaaGreatDoorFmt2
import Derived.Test.YtnccpddjdgndcaaGreatDoorFmtD
import Derived.Test.YtnccpddjdgndcaaGreatDoorFmtK
import Derived.Test.YtnccpddjdgndcaaGreatDoorFmt3
import Derived.Test.YtnccpddjdgndcaaGreatDoorFmtM
import Derived.Test.YtnccpddjdgndcaaGreatDoorFlt
import Derived.Laws.BitsAllLaws
import Derived.Test.YtnccpddjdgndcaaGreatDoorOrdFn

section
/- THE FRAME OF EVERY LAW OF THIS SEAT: a law that returns true and leaves all that was there as it was meets its given post. -/
namespace Go.Proofs.YtnccpddjdgndcaaGreatDoor.Frame
open Go.ChangeShapes Go.WideShapes Go.ChangeAt Go.RowKit

theorem own : ownKnob Tryz.prog.godebug = none := by kernel_rfl
theorem laidOut : laidOutB Tryz.prog = true := by kernel_rfl

section
variable {H : Type} {enc : TypeId × Value → H} {P : Program}
/-- the types of the parameters can be read -/
def rowed (P : Program) (ts : List TypeId) : Bool := ts.all fun t => P.readableRec t && decide (t < P.types.size)

theorem trodAll_below (hl : laidOutB P = true) {W W' : World} (hb : Below W.heap.size W W') :
    ∀ {ts : List TypeId} {vs : List Value} {ds : List (DataW H)} {ps : List MemPlace}, rowed P ts = true →
      DataW.TrodAll enc P W 0 (fun _ => true) true ts vs ds ps → DataW.TrodAll enc P W' 0 (fun b => decide (b < W.heap.size)) true ts vs ds ps
  | [], [], [], _, _, h => h
  | [], [], _ :: _, _, _, h => h.elim
  | [], _ :: _, _, _, _, h => by cases ‹List (DataW H)› <;> exact h.elim
  | _ :: _, [], _, _, _, h => h.elim
  | _ :: _, _ :: _, [], _, _, h => h.elim
  | t :: ts, v :: vs, d :: ds, ps, hv, h => by
    have hlt := h.lt
    obtain ⟨p, q, h1, h2, e⟩ := h
    simp only [rowed, List.all_cons, Bool.and_eq_true, decide_eq_true_eq] at hv
    exact ⟨p, q, Below.trod hl hv.1.1 hv.1.2 h1 hb (fun x hx => hlt x (by rw [e]; simp [hx])), trodAll_below hl hb (by simpa [rowed] using hv.2) h2, e⟩

theorem law_post {f : Func} {s : ChangeSpec} {W W' : World} {args : Array Value} {ds gs : List (DataW H)} {before : List MemPlace} {tb : TypeId}
    (hl : laidOutB P = true) (hp : rowed P f.params.toList = true) (hv : varsRowed P s.vars = true)
    (hr : f.resultTypes = #[tb]) (hu : P.underlying tb = some .bool)
    (hs : (s.fn H (ds ++ gs)).results = [.lit (.bool true)]) (ha : (s.fn H (ds ++ gs)).args = ds) (hg : (s.fn H (ds ++ gs)).vars = gs)
    (hW : DataW.Whole enc P f.params.toList s.vars false W args.toList ds gs before) (hb : Below W.heap.size W W') :
    s.post enc P f false true false false W args (.bool true) W' := by
  have hW' := hW
  obtain ⟨p, q, hA, hV, rfl, hfz, hnd⟩ := hW
  refine ⟨ds, gs, p ++ q, [], p, q, hW', ?_, ?_, ?_, hb.frame _, fun h => by cases h⟩
  · rw [hr, hs]
    exact trodAll_mk1 (shut_bool hu true)
  · rw [ha]; exact trodAll_below hl hb hp hA
  · rw [hg]; exact hb.trodVars hl hv hV
end
end Go.Proofs.YtnccpddjdgndcaaGreatDoor.Frame
end

section
/- OPENING AN ARGUMENT OF STRUCTS WITHIN STRUCTS TO ITS CELLS, cell by cell, each with its own reading and its weights. Over any program. -/
namespace Go.Proofs.YtnccpddjdgndcaaGreatDoor.Open
open Go.ChangeShapes Go.WideShapes Go.ChangeAt Go.RowKit Go.Deep

section
variable {H : Type} {enc : TypeId × Value → H} {P : Program} {w : World} {base : Nat} {spare : Nat → Bool} {held : Bool}
/-- the types of a type's cells -/
def leaves (P : Program) : Nat → TypeId → List TypeId
  | 0, t => [t]
  | n + 1, t => match P.underlying t with
    | some (.struct fs) => fs.toList.flatMap fun f => leaves P n f.type
    | _ => [t]
/-- do the fields lie one behind the other? -/
def packedFs (P : Program) (pk : TypeId → Bool) : Nat → List Field → Nat → Bool
  | o, [], e => o == e
  | o, f :: r, e => f.offset == o && pk f.type && packedFs P pk (o + P.cellsOf f.type) r e
def packed (P : Program) : Nat → TypeId → Bool
  | 0, t => match P.underlying t with
    | some (.struct _) => false
    | _ => P.cellsOf t == 1
  | n + 1, t => match P.underlying t with
    | some (.struct fs) => packedFs P (packed P n) 0 fs.toList (P.cellsOf t)
    | _ => P.cellsOf t == 1
/-- cells, each read at its own type; their weights are among those of the whole -/
def Cells (enc : TypeId × Value → H) (P : Program) (w : World) (base : Nat) (spare : Nat → Bool) (held : Bool) (W : List Nat) : List TypeId → List Value → Prop
  | [], [] => True
  | t :: ts, v :: vs => (∃ m y, DataW.trod enc P w base spare held m t [v] = some y ∧ ∀ k ∈ DataW.weights P t y.1, k ∈ W) ∧ Cells enc P w base spare held W ts vs
  | _, _ => False
theorem Cells.append {W : List Nat} : ∀ {ts ts' : List TypeId} {vs vs' : List Value}, Cells enc P w base spare held W ts vs → Cells enc P w base spare held W ts' vs' → Cells enc P w base spare held W (ts ++ ts') (vs ++ vs')
  | [], _, [], _, _, h => h
  | [], _, _ :: _, _, h, _ => h.elim
  | _ :: _, _, [], _, h, _ => h.elim
  | _ :: _, _, _ :: _, _, h, k => ⟨h.1, Cells.append h.2 k⟩
theorem Cells.sub {W W' : List Nat} (hs : ∀ k ∈ W, k ∈ W') : ∀ {ts : List TypeId} {vs : List Value}, Cells enc P w base spare held W ts vs → Cells enc P w base spare held W' ts vs
  | [], [], _ => trivial
  | [], _ :: _, h => h.elim
  | _ :: _, [], h => h.elim
  | _ :: _, _ :: _, ⟨⟨m, y, h1, h2⟩, h3⟩ => ⟨⟨m, y, h1, fun k hk => hs k (h2 k hk)⟩, Cells.sub hs h3⟩
theorem cells_fields {W : List Nat} {n : Nat} {cs : List Value} : ∀ (fs : List Field) (o : Nat), packedFs P (packed P n) o fs cs.length = true →
    (∀ f ∈ fs, Cells enc P w base spare held W (leaves P n f.type) ((cs.drop f.offset).take (P.cellsOf f.type))) → Cells enc P w base spare held W (fs.flatMap fun f => leaves P n f.type) (cs.drop o)
  | [], o, hp, _ => by
    have : o = cs.length := by simpa [packedFs] using hp
    subst this
    simp [Cells]
  | f :: r, o, hp, h => by
    simp only [packedFs, Bool.and_eq_true, beq_iff_eq] at hp
    obtain ⟨⟨h1, _⟩, h3⟩ := hp
    have e : cs.drop o = (cs.drop f.offset).take (P.cellsOf f.type) ++ cs.drop (o + P.cellsOf f.type) := by
      rw [h1, ← List.drop_drop]; exact (List.take_append_drop _ _).symm
    rw [e, List.flatMap_cons]
    exact (h f (by simp)).append (cells_fields r _ h3 (fun g hg => h g (by simp [hg])))
theorem weights_each {ts : List TypeId} : ∀ {ds : List (DataW H)} {i : Nat} {t : TypeId} {d : DataW H}, ts[i]? = some t → ds[i]? = some d → ∀ k ∈ DataW.weights P t d, k ∈ DataW.weightsEach P ts ds := by
  intro ds i t d h1 h2 k hk
  exact DataW.weights_mem_each h1 h2 k hk
/-- A READING OF A TYPE IS A READING OF ITS CELLS. -/
theorem cells_of : ∀ (n : Nat) {t : TypeId} {fuel : Nat} {cs : List Value} {x : DataW H × List MemPlace}, packed P n t = true → DataW.trod enc P w base spare held fuel t cs = some x → cs.length = P.cellsOf t →
    Cells enc P w base spare held (DataW.weights P t x.1) (leaves P n t) cs
  | 0, t, fuel, cs, x, hp, h, hl => by
    have h1 : P.cellsOf t = 1 := by
      unfold packed at hp; split at hp
      · cases hp
      · simpa using hp
    match cs, hl.trans h1 with
    | [v], _ => exact ⟨⟨fuel, x, h, fun _ hk => hk⟩, trivial⟩
  | n + 1, t, fuel, cs, x, hp, h, hl => by
    unfold packed at hp
    unfold leaves
    split at hp
    · rename_i fs hu
      obtain ⟨xs, m, rfl, rfl, hlen, hxl, hf⟩ := DataW.trod_struct hu h
      have := cells_fields (W := DataW.weights P t (.agg (xs.map (·.1)))) (cs := cs) (enc := enc) (w := w) (base := base) (spare := spare) (held := held) (P := P) (n := n) fs.toList 0 (by rw [hlen]; exact hp) (fun f hfm => by
        obtain ⟨i, hi⟩ := List.mem_iff_getElem?.1 hfm
        have hi' : fs[i]? = some f := by simpa using hi
        have hil : i < fs.size := (Array.getElem?_eq_some_iff.1 hi').1
        have hr := hf i f hi'
        have hx : xs[i]? = some (xs[i]'(by omega)) := List.getElem?_eq_getElem (by omega)
        rw [hx] at hr
        have hpk : packed P n f.type = true ∧ f.offset + P.cellsOf f.type ≤ cs.length := by
          have key : ∀ (l : List Field) (o e : Nat), packedFs P (packed P n) o l e = true → o ≤ e ∧ ∀ g ∈ l, packed P n g.type = true ∧ g.offset + P.cellsOf g.type ≤ e := by
            intro l
            induction l with
            | nil => intro o e h; have : o = e := by simpa [packedFs] using h
                     exact ⟨by omega, fun g hg => by cases hg⟩
            | cons a r ih =>
              intro o e h
              simp only [packedFs, Bool.and_eq_true, beq_iff_eq] at h
              obtain ⟨⟨h1, h2⟩, h3⟩ := h
              obtain ⟨k1, k2⟩ := ih _ _ h3
              refine ⟨by omega, fun g hg => ?_⟩
              rcases List.mem_cons.1 hg with rfl | hg
              · exact ⟨h2, by omega⟩
              · exact k2 g hg
          have := (key _ _ _ hp).2 f hfm
          rw [hlen]; exact this
        have hl2 : ((cs.drop f.offset).take (P.cellsOf f.type)).length = P.cellsOf f.type := by
          rw [List.length_take, List.length_drop]; omega
        refine Cells.sub (fun k hk => ?_) (cells_of n hpk.1 hr hl2)
        have e : DataW.weights P t (.agg (xs.map (·.1))) = DataW.weightsEach P (fs.toList.map (·.type)) (xs.map (·.1)) := by
          simp [DataW.weights, hu]
        rw [e]
        exact weights_each (i := i) (t := f.type) (d := (xs[i]'(by omega)).1) (by simp [hi']) (by simp [hx]) k hk)
      simpa using this
    · rename_i hu
      have h1 : P.cellsOf t = 1 := by simpa using hp
      match cs, hl.trans h1 with
      | [v], _ => exact ⟨⟨fuel, x, h, fun _ hk => hk⟩, trivial⟩

/-- one cell's reading -/
def Leaf (enc : TypeId × Value → H) (P : Program) (w : World) (base : Nat) (spare : Nat → Bool) (held : Bool) (W : List Nat) (t : TypeId) (v : Value) : Prop :=
  ∃ m y, DataW.trod enc P w base spare held m t [v] = some y ∧ ∀ k ∈ DataW.weights P t y.1, k ∈ W
theorem Cells.cons {W : List Nat} {t : TypeId} {ts : List TypeId} {vs : List Value} (h : Cells enc P w base spare held W (t :: ts) vs) : ∃ v us, vs = v :: us ∧ Leaf enc P w base spare held W t v ∧ Cells enc P w base spare held W ts us := by
  cases vs with
  | nil => exact h.elim
  | cons v us => exact ⟨v, us, rfl, h.1, h.2⟩
theorem Cells.nil {W : List Nat} {vs : List Value} (h : Cells enc P w base spare held W [] vs) : vs = [] := by
  cases vs with
  | nil => rfl
  | cons v us => exact h.elim
theorem Leaf.int {W : List Nat} {t : TypeId} {v : Value} {k : IntKind} (ht : P.underlying t = some (.int k)) (h : Leaf enc P w base spare held W t v) : ∃ n, v = .int k n ∧ (Lit.int k n).wf = true := by
  obtain ⟨m, y, h1, _⟩ := h
  obtain ⟨n, e, _, hw⟩ := DataW.trod_int ht h1
  exact ⟨n, by simpa using e, hw⟩
theorem Leaf.bool {W : List Nat} {t : TypeId} {v : Value} (ht : P.underlying t = some .bool) (h : Leaf enc P w base spare held W t v) : ∃ b, v = .bool b := by
  obtain ⟨m, y, h1, _⟩ := h
  obtain ⟨n, e, _⟩ := DataW.trod_bool ht h1
  exact ⟨n, by simpa using e⟩
theorem Leaf.float {W : List Nat} {t : TypeId} {v : Value} {k : FloatKind} (ht : P.underlying t = some (.float k)) (h : Leaf enc P w base spare held W t v) : ∃ b, v = .float k b ∧ (Lit.float k b).wf = true := by
  obtain ⟨m, y, h1, _⟩ := h
  cases m with
  | zero => simp [DataW.trod] at h1
  | succ m =>
    unfold DataW.trod at h1
    rw [ht] at h1
    split at h1 <;> simp_all
theorem Leaf.string {W : List Nat} {t : TypeId} {v : Value} (ht : P.underlying t = some .string) (h : Leaf enc P w base spare held W t v) : ∃ l : List UInt8, v = .string ⟨l.toArray⟩ ∧ l.length ∈ W := by
  obtain ⟨m, y, h1, h2⟩ := h
  obtain ⟨s, e, rfl, hm⟩ := DataW.trod_string ht h1
  refine ⟨s.data.toList, by simpa using e, h2 _ (by simp [DataW.weights])⟩
/-- a struct argument's cells -/
theorem arg_cells {r : Reach} {b0 : Nat} {t : TypeId} {fs : Array Field} {v : Value} {d : DataW H} {p : List MemPlace} (n : Nat) (hs : P.underlying t = some (.struct fs)) (hp : packed P n t = true)
    (hv : Value.okWide P w r b0 t v) (h : DataW.Trod enc P w base spare held t v d p) : ∃ cs, v = .agg cs ∧ Cells enc P w base spare held (DataW.weights P t d) (leaves P n t) cs.toList := by
  obtain ⟨cs, rfl, hsz⟩ := okWide_struct hs hv
  obtain ⟨fuel, hf⟩ := h
  exact ⟨cs, rfl, cells_of n hp hf (by simpa [Value.cells] using hsz)⟩
/-- the reach, of each weight of an argument -/
theorem reach_of {ts : List TypeId} {ds : List (DataW H)} (h : (DataW.weightsEach P ts ds).all (· ≤ reachBytes) = true) {j : Nat} {t : TypeId} {d : DataW H} (ht : ts[j]? = some t) (hd : ds[j]? = some d) : ∀ k ∈ DataW.weights P t d, k ≤ 140737488351232 := by
  intro k hk
  have := List.all_eq_true.1 h k (DataW.weights_mem_each ht hd k hk)
  exact of_decide_eq_true this
end
end Go.Proofs.YtnccpddjdgndcaaGreatDoor.Open
end

section
/- OPENING THE ARGUMENTS OF THE PROGRAM's OWN TYPES: values, conditions. -/
namespace Go.Proofs.YtnccpddjdgndcaaGreatDoor.Open
open Go.ChangeShapes Go.WideShapes Go.ChangeAt Go.RowKit Go.Deep
/-- a value as the walk has it -/
abbrev vcells (k n : Int) (x : Nat) (t : List UInt8) (y : Bool) : List Value := [.int .i64 k, .int .i64 n, .float .f64 x, .string ⟨t.toArray⟩, .bool y]
theorem i64_bd {n : Int} (h : (Lit.int .i64 n).wf = true) : -9223372036854775808 ≤ n ∧ n ≤ 9223372036854775807 := by
  simpa [Lit.wf, IntKind.min, IntKind.max, IntKind.signed, IntKind.bits] using h
theorem f64_bd {b : Nat} (h : (Lit.float .f64 b).wf = true) : b < 18446744073709551616 := by simpa [Lit.wf] using h
/-- what is known of a value's fields -/
def ValOk (k n : Int) (x : Nat) (t : List UInt8) : Prop := (-9223372036854775808 ≤ k ∧ k ≤ 9223372036854775807) ∧ (-9223372036854775808 ≤ n ∧ n ≤ 9223372036854775807) ∧ x < 18446744073709551616 ∧ t.length ≤ 140737488351232
section
variable {H : Type} {enc : TypeId × Value → H} {w : World} {base : Nat} {spare : Nat → Bool} {held : Bool}
theorem val_cells {W : List Nat} (hr : ∀ k ∈ W, k ≤ 140737488351232) {vs : List Value} {ts : List TypeId} (h : Cells enc Tryz.prog w base spare held W ([3, 2, 23, 9, 4] ++ ts) vs) :
    ∃ k n x t y us, vs = vcells k n x t y ++ us ∧ ValOk k n x t ∧ Cells enc Tryz.prog w base spare held W ts us := by
  obtain ⟨v0, u0, rfl, h0, r0⟩ := h.cons
  obtain ⟨v1, u1, rfl, h1, r1⟩ := r0.cons
  obtain ⟨v2, u2, rfl, h2, r2⟩ := r1.cons
  obtain ⟨v3, u3, rfl, h3, r3⟩ := r2.cons
  obtain ⟨v4, u4, rfl, h4, r4⟩ := r3.cons
  obtain ⟨k, rfl, w0⟩ := h0.int Tryz.underlying3
  obtain ⟨n, rfl, w1⟩ := h1.int Tryz.underlying2
  obtain ⟨x, rfl, w2⟩ := h2.float Tryz.underlying23
  obtain ⟨t, rfl, w3⟩ := h3.string Tryz.underlying9
  obtain ⟨y, rfl⟩ := h4.bool Tryz.underlying4
  exact ⟨k, n, x, t, y, u4, rfl, ⟨i64_bd w0, i64_bd w1, f64_bd w2, hr _ w3⟩, r4⟩
theorem cond_leaves : leaves Tryz.prog 3 41 = [9, 3, 3, 2, 23, 9, 4] := by kernel_rfl
theorem cond_packed : packed Tryz.prog 3 41 = true := by kernel_rfl
def CondOk (nm : List UInt8) (op : Int) (k n : Int) (x : Nat) (t : List UInt8) : Prop := nm.length ≤ 140737488351232 ∧ (-9223372036854775808 ≤ op ∧ op ≤ 9223372036854775807) ∧ ValOk k n x t
theorem cond_cells {W : List Nat} (hr : ∀ k ∈ W, k ≤ 140737488351232) {vs : List Value} {ts : List TypeId} (h : Cells enc Tryz.prog w base spare held W ([9, 3, 3, 2, 23, 9, 4] ++ ts) vs) :
    ∃ nm op k n x t y us, vs = (.string ⟨nm.toArray⟩ :: .int .i64 op :: vcells k n x t y) ++ us ∧ CondOk nm op k n x t ∧ Cells enc Tryz.prog w base spare held W ts us := by
  obtain ⟨v0, u0, rfl, h0, r0⟩ := h.cons
  obtain ⟨v1, u1, rfl, h1, r1⟩ := r0.cons
  obtain ⟨nm, rfl, w0⟩ := h0.string Tryz.underlying9
  obtain ⟨op, rfl, w1⟩ := h1.int Tryz.underlying3
  obtain ⟨k, n, x, t, y, us, rfl, ok, hn⟩ := val_cells hr r1
  exact ⟨nm, op, k, n, x, t, y, us, rfl, ⟨hr _ w0, i64_bd w1, ok⟩, hn⟩
end
end Go.Proofs.YtnccpddjdgndcaaGreatDoor.Open
end

section
/- WHAT THE OPENINGS OF SLICES SHARE. -/
namespace Go.Proofs.YtnccpddjdgndcaaGreatDoor.Open
open Go.ChangeShapes Go.WideShapes Go.ChangeAt Go.RowKit Go.Deep
def VOk (v : Val.V) : Prop := ValOk v.kind v.int v.num v.text
instance : Inhabited Val.V := ⟨⟨0, 0, 0, [], false⟩⟩
section
variable {H : Type}
theorem weightsAll_mem {P : Program} {e : TypeId} : ∀ {l : List (DataW H)} {d : DataW H}, d ∈ l → ∀ n ∈ d.weights P e, n ∈ DataW.weightsAll P e l
  | d0 :: l, d, hd, n, hn => by
    rw [DataW.weightsAll, List.mem_append]
    rcases List.mem_cons.1 hd with rfl | hd
    · exact Or.inl hn
    · exact Or.inr (weightsAll_mem hd n hn)
end
end Go.Proofs.YtnccpddjdgndcaaGreatDoor.Open
end

section
/- PLAIN FUNCTIONS ON NAMES. No program in sight. -/
namespace Go.Proofs.YtnccpddjdgndcaaGreatDoor.Sc
/-- may a letter stand at a place of a name? -/
def chOk (i : Nat) (c : UInt8) : Bool := (decide (97 ≤ c.toNat) && decide (c.toNat ≤ 122)) || (decide (0 < i) && decide (48 ≤ c.toNat) && decide (c.toNat ≤ 57))
/-- may the letters stand from a place on? -/
def chsOk : Nat → List UInt8 → Bool
  | _, [] => true
  | i, c :: l => chOk i c && chsOk (i + 1) l
def nameB (l : List UInt8) : Bool := chsOk 0 l && !l.isEmpty && decide (l.length ≤ 12)

theorem chsOk_append (i : Nat) (a b : List UInt8) : chsOk i (a ++ b) = (chsOk i a && chsOk (i + a.length) b) := by
  induction a generalizing i with
  | nil => simp [chsOk]
  | cons c a ih =>
    simp only [List.cons_append, chsOk, ih, List.length_cons, Bool.and_assoc]
    rw [show i + 1 + a.length = i + (a.length + 1) by omega]
theorem chsOk_snoc (l : List UInt8) (k : Nat) (h : k < l.length) : chsOk 0 (l.take (k + 1)) = (chsOk 0 (l.take k) && chOk k l[k]) := by
  rw [List.take_succ_eq_append_getElem h, chsOk_append]
  simp [chsOk, List.length_take, Nat.min_eq_left (Nat.le_of_lt h)]
theorem chsOk_bad (l : List UInt8) (k : Nat) (h : k < l.length) (hc : chOk k l[k] = false) : chsOk 0 l = false := by
  have e : l = l.take (k + 1) ++ l.drop (k + 1) := (List.take_append_drop _ _).symm
  rw [e, chsOk_append, chsOk_snoc l k h, hc]; simp

end Go.Proofs.YtnccpddjdgndcaaGreatDoor.Sc
end

section
/- THE WALK OF event.Name. -/
namespace Go.Proofs.YtnccpddjdgndcaaGreatDoor.Sc
open Go.RowKit
theorem ret_bool {a b : Bool} (h : a = b) : Ending.returned (.bool a) = .returned (.bool b) := by rw [h]
def NameRel (l : List UInt8) (i : Value) : Prop := ∃ k : Nat, k ≤ l.length ∧ i = .int .i64 k ∧ chsOk 0 (l.take k) = true
theorem byte_ways (c k : Int) (h0 : 0 ≤ k) : (97 ≤ c ∧ c ≤ 122) ∨ (¬ 97 ≤ c ∧ ¬ 0 < k) ∨ (¬ 97 ≤ c ∧ 0 < k ∧ ¬ 48 ≤ c) ∨ (¬ 97 ≤ c ∧ 0 < k ∧ 48 ≤ c ∧ c ≤ 57) ∨ (¬ 97 ≤ c ∧ 0 < k ∧ 48 ≤ c ∧ ¬ c ≤ 57) ∨ (97 ≤ c ∧ ¬ c ≤ 122 ∧ ¬ 0 < k) ∨ (97 ≤ c ∧ ¬ c ≤ 122 ∧ 0 < k ∧ 48 ≤ c ∧ ¬ c ≤ 57) := by omega
theorem chOk_yes {k : Nat} {c : UInt8} (h : (97 ≤ (c.toNat : Int) ∧ (c.toNat : Int) ≤ 122) ∨ (0 < (k : Int) ∧ 48 ≤ (c.toNat : Int) ∧ (c.toNat : Int) ≤ 57)) : chOk k c = true := by
  unfold chOk; simp; omega
theorem chOk_no {k : Nat} {c : UInt8} (h : ¬ ((97 ≤ (c.toNat : Int) ∧ (c.toNat : Int) ≤ 122) ∨ (0 < (k : Int) ∧ 48 ≤ (c.toNat : Int) ∧ (c.toNat : Int) ≤ 57))) : chOk k c = false := by
  have : ¬ chOk k c = true := by unfold chOk; simp; omega
  simpa using this
set_option maxHeartbeats 1000000 in
theorem name_any (s : ByteArray) (w : World) (hs : s.size ≤ maxLen) :
    Calls Tryz.prog 65 #[.string s] w fun e w' => e = .returned (.bool (nameB s.data.toList)) ∧ w = w' := by
  unfold maxLen at hs
  have hsz : s.data.toList.length = s.size := by rw [Array.length_toList]; rfl
  go_enter Tryz.func65, Tryz.ntmps65
  go_wp2
  go_loop [6] (fun i => NameRel s.data.toList i) (fun i => s.size - (intOf i).toNat)
  case atStart => exact ⟨0, Nat.zero_le _, rfl, by simp [chsOk]⟩
  case round =>
    obtain ⟨k, hk, rfl, hok⟩ := hrel
    have HOK := Lib.hid hok; have HSZ := Lib.hid hsz; clear hok hsz
    rw [HSZ.out] at hk
    by_cases hlt : k < s.size
    · have hg : s.data.toList[k]'(by rw [HSZ.out]; exact hlt) = s[k] := by rw [Array.getElem_toList]; rfl
      have HG := Lib.hid hg; clear hg
      rcases byte_ways (s[k].toNat : Int) (k : Int) (by omega) with ⟨a1, a2⟩ | ⟨a1, a2⟩ | ⟨a1, a2, a3⟩ | ⟨a1, a2, a3, a4⟩ | ⟨a1, a2, a3, a4⟩ | ⟨a1, a2, a3⟩ | ⟨a1, a2, a3, a4, a5⟩
      all_goals go_wp2
      all_goals try first
        | exact ⟨⟨k + 1, by rw [HSZ.out]; omega, by go_num, by rw [chsOk_snoc _ k (by rw [HSZ.out]; exact hlt), HOK.out, HG.out]; exact chOk_yes (by omega)⟩, by simp [intOf]; omega⟩
      all_goals
        go_ret
        exact ⟨ret_bool (by unfold nameB; rw [chsOk_bad _ k (by rw [HSZ.out]; exact hlt) (by rw [HG.out]; exact chOk_no (by omega))]; rfl), rfl⟩
    · obtain rfl : k = s.size := by omega
      rw [List.take_of_length_le (by rw [HSZ.out]; exact Nat.le_refl _)] at HOK
      clear hlt hk
      have he : s.toList.isEmpty = decide (s.size = 0) := by
        rw [Lib.toList_data, Bool.eq_iff_iff, List.isEmpty_iff, decide_eq_true_iff, ← HSZ.out, List.length_eq_zero_iff]
      have hr : nameB s.data.toList = (!decide (s.size = 0) && decide (s.size ≤ 12)) := by
        unfold nameB; rw [HOK.out, ← he, Lib.toList_data, HSZ.out]; rfl
      by_cases h0 : s.size = 0
      · rw [decide_eq_true h0] at he hr
        have h1 : s.toList = [] := List.isEmpty_iff.1 he
        have HR := Lib.hid hr; clear hr h0
        go_wp2
        go_ret
        exact ⟨ret_bool (by rw [HR.out]; rfl), rfl⟩
      · rw [decide_eq_false h0] at he hr
        have h1 : ¬ s.toList = [] := fun h => by rw [h] at he; cases he
        have HR := Lib.hid hr; clear hr
        by_cases h12 : s.size ≤ 12
        all_goals
          go_wp2
          go_ret
          exact ⟨ret_bool (by rw [HR.out]; simp [h12]; omega), rfl⟩

theorem name_l (x : List UInt8) (w : World) (h : x.length ≤ 140737488351232) :
    Calls Tryz.prog 65 #[.string ⟨x.toArray⟩] w fun e w' => e = .returned (.bool (nameB x)) ∧ w = w' :=
  name_any ⟨x.toArray⟩ w (by show x.length ≤ _; unfold maxLen; omega)
end Go.Proofs.YtnccpddjdgndcaaGreatDoor.Sc
end

section
/- THE WALK OF the laws' fit of package cond: it prints 'a < 3'. -/
namespace Go.Proofs.YtnccpddjdgndcaaGreatDoor.Val
open Go.RowKit Flt
/-- what the region's loads want of the world -/
theorem held_below {b : Nat} {v0 v1 v2 v3 v4 v5 v6 : Value} {w w1 w2 : World} (hb : Below w1.heap.size w1 w2)
    (h : w1.cell? ⟨b, 0, none⟩ = some v0 ∧ w1.cell? ⟨b, 1, none⟩ = some v1 ∧ w1.cell? ⟨b, 2, none⟩ = some v2 ∧ w1.cell? ⟨b, 3, none⟩ = some v3 ∧ w1.cell? ⟨b, 4, none⟩ = some v4 ∧ w1.cell? ⟨b, 5, none⟩ = some v5 ∧ w1.cell? ⟨b, 6, none⟩ = some v6 ∧ Words w1 ∧ Below w.heap.size w w1 ∧ b < w1.heap.size) :
    w2.cell? ⟨b, 0, none⟩ = some v0 ∧ w2.cell? ⟨b, 1, none⟩ = some v1 ∧ w2.cell? ⟨b, 2, none⟩ = some v2 ∧ w2.cell? ⟨b, 3, none⟩ = some v3 ∧ w2.cell? ⟨b, 4, none⟩ = some v4 ∧ w2.cell? ⟨b, 5, none⟩ = some v5 ∧ w2.cell? ⟨b, 6, none⟩ = some v6 ∧ Words w2 ∧ Below w.heap.size w w2 ∧ b < w2.heap.size := by
  obtain ⟨h0, h1, h2, h3, h4, h5, h6, hw, hB, hl⟩ := h
  have c : ∀ o, w2.cell? ⟨b, o, none⟩ = w1.cell? ⟨b, o, none⟩ := fun o => hb.cell (p := ⟨b, o, none⟩) hl
  exact ⟨by rw [c]; exact h0, by rw [c]; exact h1, by rw [c]; exact h2, by rw [c]; exact h3, by rw [c]; exact h4, by rw [c]; exact h5, by rw [c]; exact h6, hw.below hb, btrans hB hb, Nat.lt_of_lt_of_le hl hb.size⟩
theorem held_start {v0 v1 v2 v3 v4 v5 v6 : Value} {T : TypeId} {w : World} (hw : Words w) :
    (w.alloc (.cells #[v0, v1, v2, v3, v4, v5, v6] T)).drew.cell? ⟨w.heap.size, 0, none⟩ = some v0 ∧ (w.alloc (.cells #[v0, v1, v2, v3, v4, v5, v6] T)).drew.cell? ⟨w.heap.size, 1, none⟩ = some v1 ∧ (w.alloc (.cells #[v0, v1, v2, v3, v4, v5, v6] T)).drew.cell? ⟨w.heap.size, 2, none⟩ = some v2 ∧ (w.alloc (.cells #[v0, v1, v2, v3, v4, v5, v6] T)).drew.cell? ⟨w.heap.size, 3, none⟩ = some v3 ∧ (w.alloc (.cells #[v0, v1, v2, v3, v4, v5, v6] T)).drew.cell? ⟨w.heap.size, 4, none⟩ = some v4 ∧ (w.alloc (.cells #[v0, v1, v2, v3, v4, v5, v6] T)).drew.cell? ⟨w.heap.size, 5, none⟩ = some v5 ∧ (w.alloc (.cells #[v0, v1, v2, v3, v4, v5, v6] T)).drew.cell? ⟨w.heap.size, 6, none⟩ = some v6 ∧
    Words (w.alloc (.cells #[v0, v1, v2, v3, v4, v5, v6] T)).drew ∧ Below w.heap.size w (w.alloc (.cells #[v0, v1, v2, v3, v4, v5, v6] T)).drew ∧ w.heap.size < (w.alloc (.cells #[v0, v1, v2, v3, v4, v5, v6] T)).drew.heap.size := by
  have c : ∀ o, (w.alloc (.cells #[v0, v1, v2, v3, v4, v5, v6] T)).cell? ⟨w.heap.size, o, none⟩ = #[v0, v1, v2, v3, v4, v5, v6][o]? := fun o => World.cell?_alloc_at _ _ _ _ rfl
  exact ⟨c 0, c 1, c 2, c 3, c 4, c 5, c 6, (hw.below (balloc _ _)).drew, bdrewN (balloc _ _) 1, by show w.heap.size < (w.alloc _).heap.size; simp⟩
theorem held_words {b : Nat} {v0 v1 v2 v3 v4 v5 v6 : Value} {w w1 : World}
    (h : w1.cell? ⟨b, 0, none⟩ = some v0 ∧ w1.cell? ⟨b, 1, none⟩ = some v1 ∧ w1.cell? ⟨b, 2, none⟩ = some v2 ∧ w1.cell? ⟨b, 3, none⟩ = some v3 ∧ w1.cell? ⟨b, 4, none⟩ = some v4 ∧ w1.cell? ⟨b, 5, none⟩ = some v5 ∧ w1.cell? ⟨b, 6, none⟩ = some v6 ∧ Words w1 ∧ Below w.heap.size w w1 ∧ b < w1.heap.size) : Words w1 := h.2.2.2.2.2.2.2.1
theorem held_own {b : Nat} {v0 v1 v2 v3 v4 v5 v6 : Value} {w w1 : World}
    (h : w1.cell? ⟨b, 0, none⟩ = some v0 ∧ w1.cell? ⟨b, 1, none⟩ = some v1 ∧ w1.cell? ⟨b, 2, none⟩ = some v2 ∧ w1.cell? ⟨b, 3, none⟩ = some v3 ∧ w1.cell? ⟨b, 4, none⟩ = some v4 ∧ w1.cell? ⟨b, 5, none⟩ = some v5 ∧ w1.cell? ⟨b, 6, none⟩ = some v6 ∧ Words w1 ∧ Below w.heap.size w w1 ∧ b < w1.heap.size) : Below w.heap.size w w1 := h.2.2.2.2.2.2.2.2.1
theorem wordB_len (op : Int) : (wordB op).length ≤ 3 := by
  unfold wordB
  split
  · simp
  · have : op.toNat ≤ 7 := by omega
    revert this
    generalize op.toNat = n
    intro h
    match n, h with
    | 0, _ => decide
    | 1, _ => decide
    | 2, _ => decide
    | 3, _ => decide
    | 4, _ => decide
    | 5, _ => decide
    | 6, _ => decide
    | 7, _ => decide
theorem run_store_flt (P : Program) (w : World) (a : Addr) (m : Mode) (k : FloatKind) (b : Nat) : (store a (.float k b) m).run P w = stored P w a (.float k b) m := run_store P w a _ m rfl
attribute [local go_sem] run_store_flt
end Go.Proofs.YtnccpddjdgndcaaGreatDoor.Val
end

section
/- THE WALKS OF cond.Void and cond.Right, the laws' light. -/
namespace Go.Proofs.YtnccpddjdgndcaaGreatDoor.Val
open Go.RowKit Flt
def cRight (c : C) : Bool := Sc.nameB c.name && decide (0 ≤ c.op) && decide (c.op ≤ 7) && vRight c.val
theorem right_ways3 (op : Int) (n : Bool) : n = false ∨ (n = true ∧ decide (0 ≤ op) = false) ∨ (n = true ∧ decide (0 ≤ op) = true ∧ decide (op ≤ 7) = false) ∨ (n = true ∧ decide (0 ≤ op) = true ∧ decide (op ≤ 7) = true) := by
  cases n <;> cases decide (0 ≤ op) <;> cases decide (op ≤ 7) <;> simp
set_option maxHeartbeats 400000 in
theorem cright_any (nm : List UInt8) (op k n : Int) (x : Nat) (t : List UInt8) (y : Bool) (w : World) (hn : nm.length ≤ 140737488351232) (ht : t.length ≤ 140737488351232) :
    Calls Tryz.prog 43 #[cond nm op k n x t y] w fun e w' => e = .returned (.bool (cRight ⟨nm, op, k, n, x, t, y⟩)) ∧ Below w.heap.size w w' := by
  have hr : cRight ⟨nm, op, k, n, x, t, y⟩ = (Sc.nameB nm && decide (0 ≤ op) && decide (op ≤ 7) && vRight ⟨k, n, x, t, y⟩) := rfl
  have hv (w : World) := vright_any k n x t y w ht
  have hm (w : World) := Sc.name_l nm w hn
  generalize vRight ⟨k, n, x, t, y⟩ = vb at *
  generalize Sc.nameB nm = nb at *
  have HR := Lib.hid hr; have HV := Lib.hid hv; have HM := Lib.hid hm; clear hr hv hm
  rcases right_ways3 op nb with rfl | ⟨rfl, h1⟩ | ⟨rfl, h1, h2⟩ | ⟨rfl, h1, h2⟩
  · have HQ : Hid (cRight ⟨nm, op, k, n, x, t, y⟩ = false) := Lib.hid (by rw [HR.out]; rfl)
    go_enter Tryz.func43, Tryz.ntmps43
    go_wp2_with (first | (go_at_call 65; refine (HM.out _).mono ?_; rintro e w' ⟨rfl, rfl⟩) | (go_at_call 12; refine (HV.out _).mono ?_; rintro e w1 ⟨rfl, hb⟩; obtain ⟨hc, hf⟩ := bcell hb))
    go_ret
    exact ⟨ret_bool HQ.out.symm, by repeat (first | assumption | (with_reducible exact Below.refl _ _) | exact balloc _ _ | exact balloc2 _ _ _ | refine btrans ?_ (by assumption) | refine btrans ?_ (balloc _ _))⟩
  · have HQ : Hid (cRight ⟨nm, op, k, n, x, t, y⟩ = false) := Lib.hid (by rw [HR.out, h1]; rfl)
    go_enter Tryz.func43, Tryz.ntmps43
    go_wp2_with (first | (go_at_call 65; refine (HM.out _).mono ?_; rintro e w' ⟨rfl, rfl⟩) | (go_at_call 12; refine (HV.out _).mono ?_; rintro e w1 ⟨rfl, hb⟩; obtain ⟨hc, hf⟩ := bcell hb))
    go_ret
    exact ⟨ret_bool HQ.out.symm, by repeat (first | assumption | (with_reducible exact Below.refl _ _) | exact balloc _ _ | exact balloc2 _ _ _ | refine btrans ?_ (by assumption) | refine btrans ?_ (balloc _ _))⟩
  · have HQ : Hid (cRight ⟨nm, op, k, n, x, t, y⟩ = false) := Lib.hid (by rw [HR.out, h1, h2]; rfl)
    go_enter Tryz.func43, Tryz.ntmps43
    go_wp2_with (first | (go_at_call 65; refine (HM.out _).mono ?_; rintro e w' ⟨rfl, rfl⟩) | (go_at_call 12; refine (HV.out _).mono ?_; rintro e w1 ⟨rfl, hb⟩; obtain ⟨hc, hf⟩ := bcell hb))
    go_ret
    exact ⟨ret_bool HQ.out.symm, by repeat (first | assumption | (with_reducible exact Below.refl _ _) | exact balloc _ _ | exact balloc2 _ _ _ | refine btrans ?_ (by assumption) | refine btrans ?_ (balloc _ _))⟩
  · have HQ : Hid (cRight ⟨nm, op, k, n, x, t, y⟩ = vb) := Lib.hid (by rw [HR.out, h1, h2]; rfl)
    go_enter Tryz.func43, Tryz.ntmps43
    go_wp2_with (first | (go_at_call 65; refine (HM.out _).mono ?_; rintro e w' ⟨rfl, rfl⟩) | (go_at_call 12; refine (HV.out _).mono ?_; rintro e w1 ⟨rfl, hb⟩; obtain ⟨hc, hf⟩ := bcell hb))
    go_ret
    exact ⟨ret_bool HQ.out.symm, by repeat (first | assumption | (with_reducible exact Below.refl _ _) | exact balloc _ _ | exact balloc2 _ _ _ | refine btrans ?_ (by assumption) | refine btrans ?_ (balloc _ _))⟩
end Go.Proofs.YtnccpddjdgndcaaGreatDoor.Val
end

section
/- THE WALKS OF value.Canon and cond.Canon. -/
namespace Go.Proofs.YtnccpddjdgndcaaGreatDoor.Val
open Go.RowKit Flt
attribute [local go_sem] run_store_flt
def canonV (v : V) : V := if v.kind == 0 then ⟨0, v.int, 0, [], false⟩ else if v.kind == 1 then ⟨1, 0, Ord.canon v.num, [], false⟩ else if v.kind == 2 then ⟨2, 0, 0, v.text, false⟩ else if v.kind == 3 then ⟨3, 0, 0, [], v.yes⟩ else ⟨0, 0, 0, [], false⟩
/-- a value's own form -/
abbrev vv (v : V) : Value := val v.kind v.int v.num v.text v.yes
abbrev cc (c : C) : Value := cond c.name c.op c.val.kind c.val.int c.val.num c.val.text c.val.yes
def canonC (c : C) : C := if c.op == 7 then ⟨c.name, 7, 0, 0, 0, [], false⟩ else ⟨c.name, c.op, canonV c.val⟩
theorem kind_ways (k : Int) : (k == 0) = true ∨ ((k == 0) = false ∧ (k == 1) = true) ∨ ((k == 0) = false ∧ (k == 1) = false ∧ (k == 2) = true) ∨ ((k == 0) = false ∧ (k == 1) = false ∧ (k == 2) = false ∧ (k == 3) = true) ∨ ((k == 0) = false ∧ (k == 1) = false ∧ (k == 2) = false ∧ (k == 3) = false) := by
  cases h0 : (k == 0) <;> cases h1 : (k == 1) <;> cases h2 : (k == 2) <;> cases h3 : (k == 3) <;> simp
set_option maxHeartbeats 400000 in
theorem vcanon_any (k n : Int) (x : Nat) (t : List UInt8) (y : Bool) (w : World) :
    Calls Tryz.prog 15 #[val k n x t y] w fun e w' => e = .returned (vv (canonV ⟨k, n, x, t, y⟩)) ∧ Below w.heap.size w w' := by
  have hr : canonV ⟨k, n, x, t, y⟩ = if k == 0 then ⟨0, n, 0, [], false⟩ else if k == 1 then ⟨1, 0, Ord.canon x, [], false⟩ else if k == 2 then ⟨2, 0, 0, t, false⟩ else if k == 3 then ⟨3, 0, 0, [], y⟩ else ⟨0, 0, 0, [], false⟩ := rfl
  have HR := Lib.hid hr; clear hr
  rcases kind_ways k with h0 | ⟨h0, h1⟩ | ⟨h0, h1, h2⟩ | ⟨h0, h1, h2, h3⟩ | ⟨h0, h1, h2, h3⟩
  all_goals
    go_enter Tryz.func15, Tryz.ntmps15
    go_wp2_with (go_at_call 32; refine (Ord.canon_any _ _).mono ?_; rintro e w' ⟨rfl, rfl⟩)
    go_returns
    exact ⟨by rw [HR.out]; simp only [*, Bool.false_eq_true, if_false, if_true], by repeat (first | assumption | (with_reducible exact Below.refl _ _) | exact balloc _ _ | exact balloc2 _ _ _ | refine btrans ?_ (by assumption) | refine btrans ?_ (balloc _ _))⟩
theorem bdrew0 {w a : World} (h : Below w.drew.heap.size w.drew a) : Below w.heap.size w a := (bdrewN (Below.refl _ _) 1).trans h
theorem set7_far (w : World) (b b' o : Nat) (v0 v1 v2 v3 v4 v5 v6 : Value) (h : b ≠ b') : (((((((w.setCell ⟨b, 0, none⟩ v0).setCell ⟨b, 1, none⟩ v1).setCell ⟨b, 2, none⟩ v2).setCell ⟨b, 3, none⟩ v3).setCell ⟨b, 4, none⟩ v4).setCell ⟨b, 5, none⟩ v5).setCell ⟨b, 6, none⟩ v6).cell? ⟨b', o, none⟩ = w.cell? ⟨b', o, none⟩ :=
  World.cell?_setCells_out b [v0, v1, v2, v3, v4, v5, v6] 0 w ⟨b', o, none⟩ (fun h1 => absurd h1.symm h)
theorem set7_at (w : World) (b : Nat) (v0 v1 v2 v3 v4 v5 v6 : Value) (h : ∀ j, j < 7 → (w.cell? ⟨b, j, none⟩).isSome = true) :
    (((((((w.setCell ⟨b, 0, none⟩ v0).setCell ⟨b, 1, none⟩ v1).setCell ⟨b, 2, none⟩ v2).setCell ⟨b, 3, none⟩ v3).setCell ⟨b, 4, none⟩ v4).setCell ⟨b, 5, none⟩ v5).setCell ⟨b, 6, none⟩ v6).cell? ⟨b, 0, none⟩ = some v0 ∧
    (((((((w.setCell ⟨b, 0, none⟩ v0).setCell ⟨b, 1, none⟩ v1).setCell ⟨b, 2, none⟩ v2).setCell ⟨b, 3, none⟩ v3).setCell ⟨b, 4, none⟩ v4).setCell ⟨b, 5, none⟩ v5).setCell ⟨b, 6, none⟩ v6).cell? ⟨b, 1, none⟩ = some v1 ∧
    (((((((w.setCell ⟨b, 0, none⟩ v0).setCell ⟨b, 1, none⟩ v1).setCell ⟨b, 2, none⟩ v2).setCell ⟨b, 3, none⟩ v3).setCell ⟨b, 4, none⟩ v4).setCell ⟨b, 5, none⟩ v5).setCell ⟨b, 6, none⟩ v6).cell? ⟨b, 2, none⟩ = some v2 ∧
    (((((((w.setCell ⟨b, 0, none⟩ v0).setCell ⟨b, 1, none⟩ v1).setCell ⟨b, 2, none⟩ v2).setCell ⟨b, 3, none⟩ v3).setCell ⟨b, 4, none⟩ v4).setCell ⟨b, 5, none⟩ v5).setCell ⟨b, 6, none⟩ v6).cell? ⟨b, 3, none⟩ = some v3 ∧
    (((((((w.setCell ⟨b, 0, none⟩ v0).setCell ⟨b, 1, none⟩ v1).setCell ⟨b, 2, none⟩ v2).setCell ⟨b, 3, none⟩ v3).setCell ⟨b, 4, none⟩ v4).setCell ⟨b, 5, none⟩ v5).setCell ⟨b, 6, none⟩ v6).cell? ⟨b, 4, none⟩ = some v4 ∧
    (((((((w.setCell ⟨b, 0, none⟩ v0).setCell ⟨b, 1, none⟩ v1).setCell ⟨b, 2, none⟩ v2).setCell ⟨b, 3, none⟩ v3).setCell ⟨b, 4, none⟩ v4).setCell ⟨b, 5, none⟩ v5).setCell ⟨b, 6, none⟩ v6).cell? ⟨b, 5, none⟩ = some v5 ∧
    (((((((w.setCell ⟨b, 0, none⟩ v0).setCell ⟨b, 1, none⟩ v1).setCell ⟨b, 2, none⟩ v2).setCell ⟨b, 3, none⟩ v3).setCell ⟨b, 4, none⟩ v4).setCell ⟨b, 5, none⟩ v5).setCell ⟨b, 6, none⟩ v6).cell? ⟨b, 6, none⟩ = some v6 ∧
    Below b w (((((((w.setCell ⟨b, 0, none⟩ v0).setCell ⟨b, 1, none⟩ v1).setCell ⟨b, 2, none⟩ v2).setCell ⟨b, 3, none⟩ v3).setCell ⟨b, 4, none⟩ v4).setCell ⟨b, 5, none⟩ v5).setCell ⟨b, 6, none⟩ v6) := by
  have e := World.cell?_setCells_in b [v0, v1, v2, v3, v4, v5, v6] 0 w (fun j hj => by rw [Nat.zero_add]; exact h j hj)
  exact ⟨e 0 (by simp), e 1 (by simp), e 2 (by simp), e 3 (by simp), e 4 (by simp), e 5 (by simp), e 6 (by simp),
    (((((((Below.refl b w).setCell (Nat.le_refl _) _).setCell (Nat.le_refl _) _).setCell (Nat.le_refl _) _).setCell (Nat.le_refl _) _).setCell (Nat.le_refl _) _).setCell (Nat.le_refl _) _).setCell (Nat.le_refl _) _⟩
set_option maxHeartbeats 400000 in
theorem ccanon_any (nm : List UInt8) (op k n : Int) (x : Nat) (t : List UInt8) (y : Bool) (w : World) :
    Calls Tryz.prog 24 #[cond nm op k n x t y] w fun e w' => e = .returned (cc (canonC ⟨nm, op, k, n, x, t, y⟩)) ∧ Below w.heap.size w w' := by
  have hr : canonC ⟨nm, op, k, n, x, t, y⟩ = if op == 7 then ⟨nm, 7, 0, 0, 0, [], false⟩ else ⟨nm, op, canonV ⟨k, n, x, t, y⟩⟩ := rfl
  have hv (w : World) := vcanon_any k n x t y w
  generalize canonV ⟨k, n, x, t, y⟩ = cv at *
  obtain ⟨k', n', x', t', y'⟩ := cv
  have HR := Lib.hid hr; have HV := Lib.hid hv; clear hr hv
  cases h7 : (op == 7)
  rotate_left
  · go_enter Tryz.func24, Tryz.ntmps24
    go_wp2
    go_returns
    exact ⟨by rw [HR.out, h7]; rfl, by repeat (first | assumption | (with_reducible exact Below.refl _ _) | exact balloc _ _ | exact balloc2 _ _ _ | refine btrans ?_ (by assumption) | refine btrans ?_ (balloc _ _))⟩
  · go_enter Tryz.func24, Tryz.ntmps24
    go_wp2_with fail
    refine wp_region_held_drew (S := (fun w' => ∀ o, w'.cell? ⟨w.heap.size, o, none⟩ = #[(.string ⟨nm.toArray⟩), (.int .i64 op), (.int .i64 k), (.int .i64 n), (.float .f64 x), (.string ⟨t.toArray⟩), (.bool y)][o]?)) (by kernel_rfl) ?_ (fun hq0 => ?_)
    · ((try dsimp only); (first | (intro o; simp; done) | (intro o; rw [hc _ _ (by simp; omega)]; simp; done) | (intro o; refine (set7_far _ _ _ _ _ _ _ _ _ _ _ (by simp)).trans ?_; rw [hc _ _ (by simp; omega)]; simp)))
    (refine wpAnyH_take (i := 0) (oi := ?_) (v := ?_) ?_ (by kernel_rfl) (by kernel_rfl) (by kernel_rfl) ?_ (Or.inl ⟨?_, ?_⟩) (by assumption) ?_; rotate_left 2; (· (simp only [List.getElem?_toArray, List.getElem?_cons_zero]; first | done | rfl)); (· exact (fun _ _ _ h => h)); (· rfl); (· (intro w hSw; (try dsimp only at hSw); go_simp; (try with_reducible rfl))))
    (try simp only [Act.put, List.setIfInBounds_toArray, List.set_cons_zero, List.set_cons_succ])
    (refine wpAnyH_take (i := 1) (oi := ?_) (v := ?_) ?_ (by kernel_rfl) (by kernel_rfl) (by kernel_rfl) ?_ (Or.inl ⟨?_, ?_⟩) (by assumption) ?_; rotate_left 2; (· (simp only [List.getElem?_toArray, List.getElem?_cons_succ, List.getElem?_cons_zero]; first | done | rfl)); (· exact (fun _ _ _ h => h)); (· rfl); (· (intro w hSw; (try dsimp only at hSw); go_simp; (try with_reducible rfl))))
    (try simp only [Act.put, List.setIfInBounds_toArray, List.set_cons_zero, List.set_cons_succ])
    (refine wpAnyH_take (i := 2) (oi := ?_) (v := ?_) ?_ (by kernel_rfl) (by kernel_rfl) (by kernel_rfl) ?_ (Or.inl ⟨?_, ?_⟩) (by assumption) ?_; rotate_left 2; (· (simp only [List.getElem?_toArray, List.getElem?_cons_succ, List.getElem?_cons_zero]; first | done | rfl)); (· exact (fun _ _ _ h => h)); (· rfl); (· (intro w hSw; (try dsimp only at hSw); go_simp; (try with_reducible rfl))))
    (try simp only [Act.put, List.setIfInBounds_toArray, List.set_cons_zero, List.set_cons_succ])
    (refine wpAnyH_take (i := 3) (oi := ?_) (v := ?_) ?_ (by kernel_rfl) (by kernel_rfl) (by kernel_rfl) ?_ (Or.inl ⟨?_, ?_⟩) (by assumption) ?_; rotate_left 2; (· (simp only [List.getElem?_toArray, List.getElem?_cons_succ, List.getElem?_cons_zero]; first | done | rfl)); (· exact (fun _ _ _ h => h)); (· rfl); (· (intro w hSw; (try dsimp only at hSw); go_simp; (try with_reducible rfl))))
    (try simp only [Act.put, List.setIfInBounds_toArray, List.set_cons_zero, List.set_cons_succ])
    (refine wpAnyH_take (i := 4) (oi := ?_) (v := ?_) ?_ (by kernel_rfl) (by kernel_rfl) (by kernel_rfl) ?_ (Or.inl ⟨?_, ?_⟩) (by assumption) ?_; rotate_left 2; (· (simp only [List.getElem?_toArray, List.getElem?_cons_succ, List.getElem?_cons_zero]; first | done | rfl)); (· exact (fun _ _ _ h => h)); (· rfl); (· (intro w hSw; (try dsimp only at hSw); go_simp; (try with_reducible rfl))))
    (try simp only [Act.put, List.setIfInBounds_toArray, List.set_cons_zero, List.set_cons_succ])
    (refine wpAnyH_take (i := 5) (oi := ?_) (v := ?_) ?_ (by kernel_rfl) (by kernel_rfl) (by kernel_rfl) ?_ (Or.inl ⟨?_, ?_⟩) (by assumption) ?_; rotate_left 2; (· (simp only [List.getElem?_toArray, List.getElem?_cons_succ, List.getElem?_cons_zero]; first | done | rfl)); (· exact (fun _ _ _ h => h)); (· rfl); (· (intro w hSw; (try dsimp only at hSw); go_simp; (try with_reducible rfl))))
    (try simp only [Act.put, List.setIfInBounds_toArray, List.set_cons_zero, List.set_cons_succ])
    refine wpAnyH_ready (rs := [6]) (by kernel_rfl) (by simp) ?_
    refine AllReadyH.cons (o := ?_) ?_ (fun K hK => ?_) AllReadyH.nil
    rotate_left 1
    · (simp only [List.getElem?_toArray, List.getElem?_cons_succ, List.getElem?_cons_zero]; first | done | rfl)
    go_simp
    first | (refine hK.out _ _ ?_ (fun hq1 => ?_)) | ((go_at_call 15; refine (HV.out _).mono ?_; rintro e w1 ⟨rfl, hb⟩; obtain ⟨hc, hf⟩ := bcell hb); refine hK.out _ _ ?_ (fun hq1 => ?_)) | ((go_at_call 15; refine (HV.out _).mono ?_; rintro e w1 ⟨rfl, hb⟩; obtain ⟨hc, hf⟩ := bcell hb); go_wp2_with fail; refine hK.out _ _ ?_ (fun hq1 => ?_)) | fail
    · ((try dsimp only); (first | (intro o; simp; done) | (intro o; rw [hc _ _ (by simp; omega)]; simp; done) | (intro o; refine (set7_far _ _ _ _ _ _ _ _ _ _ _ (by simp)).trans ?_; rw [hc _ _ (by simp; omega)]; simp)))
    clear hK K
    (try simp only [Act.put, List.setIfInBounds_toArray, List.set_cons_zero, List.set_cons_succ])
    clear hq0
    (refine wpAnyH_take (i := 7) (oi := ?_) (v := ?_) ?_ (by kernel_rfl) (by kernel_rfl) (by kernel_rfl) ?_ (Or.inl ⟨?_, ?_⟩) (by assumption) ?_; rotate_left 2; (· (simp only [List.getElem?_toArray, List.getElem?_cons_succ, List.getElem?_cons_zero]; first | done | rfl)); (· exact (fun _ _ _ h => h)); (· rfl); (· (intro w hSw; (try dsimp only at hSw); go_simp; (try with_reducible rfl))))
    (try simp only [Act.put, List.setIfInBounds_toArray, List.set_cons_zero, List.set_cons_succ])
    refine wpAnyH_ready (rs := [8]) (by kernel_rfl) (by simp) ?_
    refine AllReadyH.cons (o := ?_) ?_ (fun K hK => ?_) AllReadyH.nil
    rotate_left 1
    · (simp only [List.getElem?_toArray, List.getElem?_cons_succ, List.getElem?_cons_zero]; first | done | rfl)
    go_simp
    first | (refine hK.out _ _ ?_ (fun hq2 => ?_)) | ((go_at_call 15; refine (HV.out _).mono ?_; rintro e w1 ⟨rfl, hb⟩; obtain ⟨hc, hf⟩ := bcell hb); refine hK.out _ _ ?_ (fun hq2 => ?_)) | ((go_at_call 15; refine (HV.out _).mono ?_; rintro e w1 ⟨rfl, hb⟩; obtain ⟨hc, hf⟩ := bcell hb); go_wp2_with fail; refine hK.out _ _ ?_ (fun hq2 => ?_)) | fail
    · ((try dsimp only); (first | (intro o; simp; done) | (intro o; rw [hc _ _ (by simp; omega)]; simp; done) | (intro o; refine (set7_far _ _ _ _ _ _ _ _ _ _ _ (by simp)).trans ?_; rw [hc _ _ (by simp; omega)]; simp)))
    clear hK K
    (try simp only [Act.put, List.setIfInBounds_toArray, List.set_cons_zero, List.set_cons_succ])
    clear hq1
    refine wpAnyH_done (by kernel_rfl) ?_ _
    go_wp2
    obtain ⟨e0, e1, e2, e3, e4, e5, e6, hb2⟩ := set7_at w1 (w.heap.size + 1) (.string ⟨nm.toArray⟩) (.int .i64 op) (.int .i64 k') (.int .i64 n') (.float .f64 x') (.string ⟨t'.toArray⟩) (.bool y') (fun j hj => by rw [hc _ _ (by simp)]; simp; omega)
    generalize World.setCell _ _ _ = W2 at *
    refine bodyPost_ret (v := cond nm op k' n' x' t' y') (by simp [results, Tryz.results24, go_sem, e0, e1, e2, e3, e4, e5, e6]; try rfl) rfl ?_
    exact ⟨by rw [HR.out, h7]; rfl, (btrans (balloc2 _ _ _) (bdrew0 hb)).trans (hb2.mono (by omega))⟩
theorem canonV_kind (v : V) (h0 : 0 ≤ v.kind) (h3 : v.kind ≤ 3) : (canonV v).kind = v.kind := by
  unfold canonV
  rcases kind_ways v.kind with h | ⟨h, h1⟩ | ⟨h, h1, h2⟩ | ⟨h, h1, h2, h3⟩ | ⟨h, h1, h2, h3⟩
  · simp only [h, if_true]; exact (beq_iff_eq.1 h).symm
  · simp only [h, h1, Bool.false_eq_true, if_false, if_true]; exact (beq_iff_eq.1 h1).symm
  · simp only [h, h1, h2, Bool.false_eq_true, if_false, if_true]; exact (beq_iff_eq.1 h2).symm
  · simp only [h, h1, h2, h3, Bool.false_eq_true, if_false, if_true]; exact (beq_iff_eq.1 h3).symm
  · simp at h h1 h2 h3; omega
end Go.Proofs.YtnccpddjdgndcaaGreatDoor.Val
end

section
/- ATTRIBUTES: six cells each; the walks of event.find and event.Get, and of the library's search as event.find calls it. -/
namespace Go.Proofs.YtnccpddjdgndcaaGreatDoor.Val
open Go.RowKit Flt
structure A where
  name : List UInt8
  val : V
instance : Inhabited A := ⟨⟨[], ⟨0, 0, 0, [], false⟩⟩⟩
abbrev aa (a : A) : Value := .agg #[.string ⟨a.name.toArray⟩, .int .i64 a.val.kind, .int .i64 a.val.int, .float .f64 a.val.num, .string ⟨a.val.text.toArray⟩, .bool a.val.yes]
def AAt (w : World) (p : Addr) (a : A) : Prop :=
  w.cell? p = some (.string ⟨a.name.toArray⟩) ∧ w.cell? ⟨p.block, p.off + 1, none⟩ = some (.int .i64 a.val.kind) ∧ w.cell? ⟨p.block, p.off + 2, none⟩ = some (.int .i64 a.val.int) ∧ w.cell? ⟨p.block, p.off + 3, none⟩ = some (.float .f64 a.val.num) ∧ w.cell? ⟨p.block, p.off + 4, none⟩ = some (.string ⟨a.val.text.toArray⟩) ∧ w.cell? ⟨p.block, p.off + 5, none⟩ = some (.bool a.val.yes)
def Attrs (w : World) (a0 : Option Addr) (l : List A) : Prop := ∀ i (h : i < l.length), ∃ a, a0 = some a ∧ AAt w (a.add (i * 6)) l[i]
theorem AAt.below {w w2 : World} {p : Addr} {a : A} (h : AAt w p a) (hb : Below w.heap.size w w2) : AAt w2 p a := by
  obtain ⟨h0, h1, h2, h3, h4, h5⟩ := h
  exact ⟨(hb.cell (World.block_lt_of_cell? _ _ h0)).trans h0, (hb.cell (World.block_lt_of_cell? _ _ h1)).trans h1, (hb.cell (World.block_lt_of_cell? _ _ h2)).trans h2, (hb.cell (World.block_lt_of_cell? _ _ h3)).trans h3, (hb.cell (World.block_lt_of_cell? _ _ h4)).trans h4, (hb.cell (World.block_lt_of_cell? _ _ h5)).trans h5⟩
theorem Attrs.below {w w2 : World} {a0 : Option Addr} {l : List A} (h : Attrs w a0 l) (hb : Below w.heap.size w w2) : Attrs w2 a0 l := fun i hi => by
  obtain ⟨a, e, h1⟩ := h i hi
  exact ⟨a, e, h1.below hb⟩
/-- where the search ends -/
def bs (l : List A) (t : List UInt8) (i j : Nat) : Nat :=
  if h : i < j then (if Lib.compareBytes (l[(i + j) / 2]!).name t < 0 then bs l t ((i + j) / 2 + 1) j else bs l t i ((i + j) / 2)) else i
termination_by j - i
attribute [local go_sem] run_store_flt
/-- an event's two cells -/
abbrev ev (sc : List UInt8) (a0 : Option Addr) (n cap : Nat) : Value := .agg #[.string ⟨sc.toArray⟩, .slice a0 n cap]
theorem set5_at (w : World) (b : Nat) (v0 v1 v2 v3 v4 : Value) (h : ∀ j, j < 5 → (w.cell? ⟨b, j, none⟩).isSome = true) :
    (((((w.setCell ⟨b, 0, none⟩ v0).setCell ⟨b, 1, none⟩ v1).setCell ⟨b, 2, none⟩ v2).setCell ⟨b, 3, none⟩ v3).setCell ⟨b, 4, none⟩ v4).cell? ⟨b, 0, none⟩ = some v0 ∧
    (((((w.setCell ⟨b, 0, none⟩ v0).setCell ⟨b, 1, none⟩ v1).setCell ⟨b, 2, none⟩ v2).setCell ⟨b, 3, none⟩ v3).setCell ⟨b, 4, none⟩ v4).cell? ⟨b, 1, none⟩ = some v1 ∧
    (((((w.setCell ⟨b, 0, none⟩ v0).setCell ⟨b, 1, none⟩ v1).setCell ⟨b, 2, none⟩ v2).setCell ⟨b, 3, none⟩ v3).setCell ⟨b, 4, none⟩ v4).cell? ⟨b, 2, none⟩ = some v2 ∧
    (((((w.setCell ⟨b, 0, none⟩ v0).setCell ⟨b, 1, none⟩ v1).setCell ⟨b, 2, none⟩ v2).setCell ⟨b, 3, none⟩ v3).setCell ⟨b, 4, none⟩ v4).cell? ⟨b, 3, none⟩ = some v3 ∧
    (((((w.setCell ⟨b, 0, none⟩ v0).setCell ⟨b, 1, none⟩ v1).setCell ⟨b, 2, none⟩ v2).setCell ⟨b, 3, none⟩ v3).setCell ⟨b, 4, none⟩ v4).cell? ⟨b, 4, none⟩ = some v4 ∧
    Below b w (((((w.setCell ⟨b, 0, none⟩ v0).setCell ⟨b, 1, none⟩ v1).setCell ⟨b, 2, none⟩ v2).setCell ⟨b, 3, none⟩ v3).setCell ⟨b, 4, none⟩ v4) := by
  have e := World.cell?_setCells_in b [v0, v1, v2, v3, v4] 0 w (fun j hj => by rw [Nat.zero_add]; exact h j hj)
  exact ⟨e 0 (by simp), e 1 (by simp), e 2 (by simp), e 3 (by simp), e 4 (by simp),
    (((((Below.refl b w).setCell (Nat.le_refl _) _).setCell (Nat.le_refl _) _).setCell (Nat.le_refl _) _).setCell (Nat.le_refl _) _).setCell (Nat.le_refl _) _⟩
end Go.Proofs.YtnccpddjdgndcaaGreatDoor.Val
end

section
/- THE WALK OF cond.Match. -/
namespace Go.Proofs.YtnccpddjdgndcaaGreatDoor.Val
open Go.RowKit Flt
attribute [local go_sem] run_store_flt
end Go.Proofs.YtnccpddjdgndcaaGreatDoor.Val
end

section
/- CONDITIONS IN MEMORY: seven cells each. -/
namespace Go.Proofs.YtnccpddjdgndcaaGreatDoor.Val
open Go.RowKit Flt
instance : Inhabited C := ⟨⟨[], 0, 0, 0, 0, [], false⟩⟩
def CAt (w : World) (p : Addr) (c : C) : Prop :=
  w.cell? p = some (.string ⟨c.name.toArray⟩) ∧ w.cell? ⟨p.block, p.off + 1, none⟩ = some (.int .i64 c.op) ∧ w.cell? ⟨p.block, p.off + 2, none⟩ = some (.int .i64 c.val.kind) ∧ w.cell? ⟨p.block, p.off + 3, none⟩ = some (.int .i64 c.val.int) ∧ w.cell? ⟨p.block, p.off + 4, none⟩ = some (.float .f64 c.val.num) ∧ w.cell? ⟨p.block, p.off + 5, none⟩ = some (.string ⟨c.val.text.toArray⟩) ∧ w.cell? ⟨p.block, p.off + 6, none⟩ = some (.bool c.val.yes)
def Conds (w : World) (a0 : Option Addr) (l : List C) : Prop := ∀ i (h : i < l.length), ∃ a, a0 = some a ∧ CAt w (a.add (i * 7)) l[i]
theorem CAt.below {w w2 : World} {p : Addr} {c : C} (h : CAt w p c) (hb : Below w.heap.size w w2) : CAt w2 p c := by
  obtain ⟨h0, h1, h2, h3, h4, h5, h6⟩ := h
  exact ⟨(hb.cell (World.block_lt_of_cell? _ _ h0)).trans h0, (hb.cell (World.block_lt_of_cell? _ _ h1)).trans h1, (hb.cell (World.block_lt_of_cell? _ _ h2)).trans h2, (hb.cell (World.block_lt_of_cell? _ _ h3)).trans h3, (hb.cell (World.block_lt_of_cell? _ _ h4)).trans h4, (hb.cell (World.block_lt_of_cell? _ _ h5)).trans h5, (hb.cell (World.block_lt_of_cell? _ _ h6)).trans h6⟩
theorem Conds.below {w w2 : World} {a0 : Option Addr} {l : List C} (h : Conds w a0 l) (hb : Below w.heap.size w w2) : Conds w2 a0 l := fun i hi => by
  obtain ⟨a, e, h1⟩ := h i hi
  exact ⟨a, e, h1.below hb⟩
end Go.Proofs.YtnccpddjdgndcaaGreatDoor.Val
end

section
/- A FILTER AS AN ARGUMENT. -/
namespace Go.Proofs.YtnccpddjdgndcaaGreatDoor.Open
open Go.ChangeShapes Go.WideShapes Go.ChangeAt Go.RowKit Go.Deep
def COk (c : Val.C) : Prop := CondOk c.name c.op c.val.kind c.val.int c.val.num c.val.text
section
variable {H : Type} {enc : TypeId × Value → H} {w : World} {base : Nat} {spare : Nat → Bool} {held : Bool}
set_option maxRecDepth 100000 in
theorem leaf_conds {W : List Nat} (hr : ∀ k ∈ W, k ≤ 140737488351232) {v : Value} (h : Leaf enc Tryz.prog w base spare held W 33 v) :
    ∃ (a0 : Option Addr) (cap : Nat) (l : List Val.C), v = .slice a0 l.length cap ∧ l.length ≤ cap ∧ cap ≤ maxLen ∧ Val.Conds w a0 l ∧ (∀ x ∈ l, COk x) ∧ (a0 = none → l = [] ∧ cap = 0) := by
  have hu : Tryz.prog.underlying 33 = some (.slice 41) := Tryz.underlying33
  have hce : Tryz.prog.cellsOf 41 = 7 := by kernel_rfl
  obtain ⟨fuel, ⟨d, pp⟩, hf, hW⟩ := h
  rcases open_slice hu hf with ⟨h0, _⟩ | ⟨a, len, cap, m, n, D, Pl, h0, hb, hl, hm, hmm, hx, hel⟩
  · have he : v = .slice none 0 0 := by simpa using h0
    subst he
    exact ⟨none, 0, [], rfl, Nat.le_refl _, Nat.zero_le _, fun _ h => absurd h (Nat.not_lt_zero _), fun _ hx => (nomatch hx), fun _ => ⟨rfl, rfl⟩⟩
  · have he : v = .slice (some a) len cap := by simpa using h0
    subst he
    have hlm : len ≤ m := by rw [hmm]; split <;> omega
    have each : ∀ i, i < len → ∃ x : Val.C, Val.CAt w (a.add (i * 7)) x ∧ COk x := by
      intro i hi
      obtain ⟨cs', h1, h2⟩ := hel i (by omega)
      rw [hce] at h1
      obtain ⟨_, hlen, hcell⟩ := World.cells?_some h1
      have hcs := cells_of 3 cond_packed h2 (by rw [hlen, hce])
      rw [cond_leaves] at hcs
      have hw : ∀ k ∈ DataW.weights Tryz.prog 41 (D i), k ≤ 140737488351232 := by
        intro k hk
        refine hr k (hW k ?_)
        have hd : d = .slice ((List.range len).map D) ((List.range (m - len)).map fun j => D (len + j)) := congrArg Prod.fst hx
        rw [hd]
        simp only [DataW.weights, hu]
        exact List.mem_cons_of_mem _ (List.mem_append_left _ (weightsAll_mem (List.mem_map.2 ⟨i, List.mem_range.2 hi, rfl⟩) k hk))
      obtain ⟨nm, op, k, nn, x, t, y, us, e, ok, hn⟩ := cond_cells hw (ts := []) hcs
      rw [hn.nil, List.append_nil] at e
      subst e
      refine ⟨⟨nm, op, ⟨k, nn, x, t, y⟩⟩, ⟨?_, ?_, ?_, ?_, ?_, ?_, ?_⟩, ok⟩
      · exact hcell 0 (by decide)
      · exact hcell 1 (by decide)
      · exact hcell 2 (by decide)
      · exact hcell 3 (by decide)
      · exact hcell 4 (by decide)
      · exact hcell 5 (by decide)
      · exact hcell 6 (by decide)
    obtain ⟨F, hF⟩ := choose_lt each
    refine ⟨some a, cap, (List.range len).map F, by simp, by simpa using hl, hm, fun i hi => ⟨a, rfl, ?_⟩, fun x hx => ?_, fun e => by cases e⟩
    · have hi' : i < len := by simpa using hi
      have : ((List.range len).map F)[i] = F i := by simp
      rw [this]
      exact (hF i hi').1
    · obtain ⟨i, hi, rfl⟩ := List.mem_map.1 hx
      exact (hF i (List.mem_range.1 hi)).2
theorem filter_leaves : leaves Tryz.prog 3 35 = [9, 33] := by kernel_rfl
theorem filter_packed : packed Tryz.prog 3 35 = true := by kernel_rfl
theorem filter_cells {W : List Nat} (hr : ∀ k ∈ W, k ≤ 140737488351232) {vs : List Value} (h : Cells enc Tryz.prog w base spare held W [9, 33] vs) :
    ∃ (sc : List UInt8) (a0 : Option Addr) (cap : Nat) (l : List Val.C), vs = [.string ⟨sc.toArray⟩, .slice a0 l.length cap] ∧ sc.length ≤ 140737488351232 ∧ l.length ≤ cap ∧ cap ≤ maxLen ∧ Val.Conds w a0 l ∧ (∀ x ∈ l, COk x) ∧ (a0 = none → l = [] ∧ cap = 0) := by
  obtain ⟨v0, u0, rfl, h0, r0⟩ := h.cons
  obtain ⟨v1, u1, rfl, h1, r1⟩ := r0.cons
  obtain ⟨sc, rfl, w0⟩ := h0.string Tryz.underlying9
  obtain ⟨a0, cap, l, rfl, q, m, s, k, n⟩ := leaf_conds hr h1
  exact ⟨sc, a0, cap, l, by rw [r1.nil], hr _ w0, q, m, s, k, n⟩
set_option maxRecDepth 100000 in
theorem open_filter {r : Reach} {b0 : Nat} {v : Value} {d : DataW H} {p : List MemPlace} (hv : Value.okWide Tryz.prog w r b0 35 v) (h : DataW.Trod enc Tryz.prog w base spare held 35 v d p)
    (hr : ∀ k ∈ DataW.weights Tryz.prog 35 d, k ≤ 140737488351232) :
    ∃ (sc : List UInt8) (a0 : Option Addr) (cap : Nat) (l : List Val.C), v = .agg #[.string ⟨sc.toArray⟩, .slice a0 l.length cap] ∧ sc.length ≤ 140737488351232 ∧ l.length ≤ cap ∧ cap ≤ maxLen ∧ Val.Conds w a0 l ∧ (∀ x ∈ l, COk x) ∧ (a0 = none → l = [] ∧ cap = 0) := by
  obtain ⟨cs, rfl, hc⟩ := arg_cells 3 Tryz.underlying35 filter_packed hv h
  rw [filter_leaves] at hc
  obtain ⟨sc, a0, cap, l, e, rest⟩ := filter_cells hr hc
  exact ⟨sc, a0, cap, l, by rw [← e], rest⟩
end
end Go.Proofs.YtnccpddjdgndcaaGreatDoor.Open
end

section
/- THE WALK OF strconv.ParseFloat AT ONE TEXT ("3.0"): the exact road, thirty divided by ten. -/
namespace Go.Proofs.YtnccpddjdgndcaaGreatDoor.Pf
open Go.RowKit Go.Lib
/-- what the exact road reads -/
structure PfT (w : World) : Prop where
  opt : w.cell? ⟨7, 0, none⟩ = some (.bool true)
  inf : w.cell? ⟨10, 0, none⟩ = some (.int .u64 52)
  pow : ∃ R o c : Nat, w.cell? ⟨13, 0, none⟩ = some (.slice (some ⟨R, o, none⟩) 23 c) ∧ w.cell? ⟨R, o + 1, none⟩ = some (.float .f64 4621819117588971520)
theorem PfT.below {w w' : World} {B : Nat} (h : PfT w) (hb : Below B w w') (hB : w.heap.size ≤ B) : PfT w' := by
  obtain ⟨h1, h2, R, o, c, h3, h4⟩ := h
  exact ⟨Tab.cell_below hb hB h1, Tab.cell_below hb hB h2, R, o, c, Tab.cell_below hb hB h3, Tab.cell_below hb hB h4⟩
/-- "3.0" -/
abbrev t3 : Value := .string ⟨#[51, 46, 48]⟩
theorem g0 (h : 0 < (⟨#[51, 46, 48]⟩ : ByteArray).size) : ((⟨#[51, 46, 48]⟩ : ByteArray)[0]'h) = 51 := rfl
theorem g1 (h : 1 < (⟨#[51, 46, 48]⟩ : ByteArray).size) : ((⟨#[51, 46, 48]⟩ : ByteArray)[1]'h) = 46 := rfl
theorem g2 (h : 2 < (⟨#[51, 46, 48]⟩ : ByteArray).size) : ((⟨#[51, 46, 48]⟩ : ByteArray)[2]'h) = 48 := rfl
attribute [local go_sem] g0 g1 g2
end Go.Proofs.YtnccpddjdgndcaaGreatDoor.Pf
end

section
/- THE TABLES THAT ParseFloat's EXACT ROAD READS, as a row lays them. -/
namespace Go.Proofs.YtnccpddjdgndcaaGreatDoor.Pf
open Go.RowKit Go.Lib
theorem trod_float {H : Type} {enc : TypeId × Value → H} {P : Program} {w : World} {base : Nat} {spare : Nat → Bool} {held : Bool} {fuel : Nat} {t : TypeId} {cs : List Value} {x : DataW H × List MemPlace} {k : FloatKind}
    (ht : P.underlying t = some (.float k)) (h : DataW.trod enc P w base spare held fuel t cs = some x) : ∃ n, cs = [.float k n] ∧ x = (.lit (.float k n), []) := by
  cases fuel with
  | zero => simp [DataW.trod] at h
  | succ n =>
    unfold DataW.trod at h
    rw [ht] at h
    split at h <;> simp_all
theorem bool_of_reads {P : Program} {w : World} {name : String} {g : Nat} {t : TypeId} {b : Bool} (hn : P.globalNamed name = some g) (hy : (P.globals[g]?).map (·.type) = some t) (ht : P.underlying t = some .bool)
    (h : VarReads P w name (.lit (.bool b))) : w.cell? ⟨g, 0, none⟩ = some (.bool b) := by
  obtain ⟨g', t', cs, fuel, p, hg, hty, hvar, hd⟩ := h
  obtain rfl := Option.some.inj (hn.symm.trans hg)
  obtain rfl := Option.some.inj (hy.symm.trans hty)
  obtain ⟨b', hb, hx⟩ := DataW.trod_bool ht hd
  have e := congrArg Prod.fst hx
  simp only [DataW.lit.injEq, Lit.bool.injEq] at e
  rw [World.var?_cell hn hvar 0, ← Array.getElem?_toList, hb, e]; rfl
theorem field0_of_reads {P : Program} {w : World} {name : String} {g : Nat} {t : TypeId} {fs : Array Field} {f : Field} {k : IntKind} {z : Int} {ds : List (DataW Unit)} (hn : P.globalNamed name = some g) (hy : (P.globals[g]?).map (·.type) = some t) (ht : P.underlying t = some (.struct fs))
    (hf : fs[0]? = some f) (ho : f.offset = 0) (hc : P.cellsOf f.type = 1) (hk : P.underlying f.type = some (.int k)) (h : VarReads P w name (.agg (.lit (.int k z) :: ds))) : w.cell? ⟨g, 0, none⟩ = some (.int k z) := by
  obtain ⟨g', t', cs, fuel, p, hg, hty, hvar, hd⟩ := h
  obtain rfl := Option.some.inj (hn.symm.trans hg)
  obtain rfl := Option.some.inj (hy.symm.trans hty)
  obtain ⟨xs, n, rfl, hx, hl, hxl, hall⟩ := DataW.trod_struct ht hd
  have e := congrArg Prod.fst hx
  simp only [DataW.agg.injEq] at e
  have h0 := hall 0 f hf
  rw [ho, hc] at h0
  cases xs with
  | nil => simp at e
  | cons y ys =>
    simp only [List.map_cons, List.cons.injEq] at e
    simp only [List.getElem?_cons_zero, List.drop_zero] at h0
    obtain ⟨z', hz, hyz, _⟩ := DataW.trod_int hk h0
    have e1 := e.1
    rw [hyz] at e1
    simp only [DataW.lit.injEq, Lit.int.injEq, true_and] at e1
    rw [World.var?_cell hn hvar 0, ← Array.getElem?_toList]
    have := congrArg (·[0]?) hz
    simp only [List.getElem?_take, List.getElem?_cons_zero] at this
    rw [e1]; simpa using this
theorem floats_of_reads {P : Program} {w : World} {name : String} {g : Nat} {t e : TypeId} {k : FloatKind} {l : List (DataW Unit)} {z : Nat} {i : Nat} (hn : P.globalNamed name = some g) (hy : (P.globals[g]?).map (·.type) = some t)
    (ht : P.underlying t = some (.slice e)) (he : P.underlying e = some (.float k)) (hc : P.cellsOf e = 1) (hi : l[i]? = some (.lit (.float k z))) (h : VarReads P w name (.slice l [])) :
    ∃ R o c : Nat, w.cell? ⟨g, 0, none⟩ = some (.slice (some ⟨R, o, none⟩) l.length c) ∧ w.cell? ⟨R, o + i, none⟩ = some (.float k z) := by
  obtain ⟨g', t', cs, fuel, p, hg, hty, hvar, hd⟩ := h
  obtain rfl := Option.some.inj (hn.symm.trans hg)
  obtain rfl := Option.some.inj (hy.symm.trans hty)
  rcases DataW.trod_slice ht hd with ⟨_, hx⟩ | ⟨a, len, cap, el, rs, m, rfl, hcs, hx, _, hlc, _, hel, helem, hsp, _⟩
  · cases hx
  have e0 := congrArg Prod.fst hx
  simp only [DataW.slice.injEq] at e0
  obtain ⟨eE, eR⟩ := e0
  have hlen : len = l.length := by
    have := congrArg List.length eE
    simp at this
    omega
  have hlt : i < l.length := (List.getElem?_eq_some_iff.1 hi).1
  have h1 := helem i (by omega)
  rw [hc, Nat.mul_one] at h1
  obtain ⟨b, hb⟩ : ∃ b, el[i]? = some b := ⟨el[i]'(by omega), List.getElem?_eq_getElem (by omega)⟩
  rw [hb] at h1
  obtain ⟨ce, hce, hte⟩ := Option.bind_eq_some_iff.1 h1
  obtain ⟨z', hz, hbz⟩ := trod_float he hte
  have hb1 : (DataW.lit (.float k z) : DataW Unit) = b.1 := by
    have := congrArg (·[i]?) eE
    rw [List.getElem?_map, hb] at this
    rw [hi] at this
    simpa using this
  rw [hbz] at hb1
  simp only [DataW.lit.injEq, Lit.float.injEq, true_and] at hb1
  obtain ⟨_, _, hcc⟩ := World.cells?_some hce
  have h2 := hcc 0 (by omega)
  rw [hz, ← hb1] at h2
  have e1 : (a.add i).add 0 = a.add i := by simp [Addr.add]
  rw [e1] at h2
  have hcell : w.cell? (a.add i) = some (.float k z) := h2
  obtain ⟨R, o, sR⟩ := a
  obtain rfl : sR = none := by
    have h3 := helem 0 (by omega)
    rw [hc, Nat.zero_mul, List.getElem?_eq_getElem (show 0 < el.length by omega)] at h3
    obtain ⟨ce2, hce2, _⟩ := Option.bind_eq_some_iff.1 h3
    obtain ⟨_, _, hcc2⟩ := World.cells?_some hce2
    have h4 := hcc2 0 (by omega)
    have e2 : ((Addr.add ⟨R, o, sR⟩ 0).add 0) = ⟨R, o, sR⟩ := by simp [Addr.add]
    rw [e2] at h4
    cases ce2 with
    | nil => simp at hcc2; rename_i q; simp at q
    | cons v vs => exact Go.Proofs.cell_spot h4
  refine ⟨R, o, cap, ?_, ?_⟩
  · rw [World.var?_cell hn hvar 0, ← Array.getElem?_toList, hcs, hlen]
    rfl
  · rwa [Addr.add_lit] at hcell
end Go.Proofs.YtnccpddjdgndcaaGreatDoor.Pf
end

section
/- THE WALK OF strconv.parseFloat64: digits and a power of ten, scaled and rounded. -/
namespace Go.Proofs.YtnccpddjdgndcaaGreatDoor.Pf
open Go.RowKit Go.Proofs.YtnccpddjdgndcaaGreatDoor.Fmt
theorem sfrom_call (n : Int) (w : World) : (callFunc 157 #[.int .u64 n]).run Tryz.prog w = .ok (.value (.float .f64 n.toNat)) w :=
  run_callFunc_extern (e := Extern.MathFloatBits.float64frombits) Tryz.func157 (by kernel_rfl) (by kernel_rfl) (by kernel_rfl) (by kernel_rfl) _ w
theorem unmin_53 (w : World) : Calls Tryz.prog 173 #[.int .u64 9007199254740992] w fun e w' => e = .returned (.int .u64 36028797018963966) ∧ w = w' := by
  go_enter Tryz.func173, Tryz.ntmps173
  go_wp2
  go_ret
  exact ⟨rfl, rfl⟩
theorem bool2i_any (b : Bool) (w : World) : Calls Tryz.prog 119 #[.bool b] w fun e w' => e = .returned (.int .i64 (if b then 1 else 0)) ∧ w = w' := by
  cases b
  all_goals
    go_enter Tryz.func119, Tryz.ntmps119
    go_wp2
    go_ret
    exact ⟨rfl, rfl⟩
/-- bits and error of a mantissa and an exponent -/
def packB (m : Int) (e : Int) : Int × Bool :=
  if bits .and .u64 m 4503599627370496 = 0 then (m, false)
  else if 972 ≤ e then (bits .or .u64 (bits .and .u64 m 9223372036854775808) 9218868437227405312, true)
  else (bits .or .u64 (bits .andNot .u64 m 4503599627370496) (IntKind.u64.wrap (IntKind.u64.wrap (1075 + e) * 4503599627370496)), false)
def errV (b : Bool) : Value := if b then .iface 106 (.int .i64 1) else .nilIface
set_option maxRecDepth 20000 in
theorem pack_any (m e : Int) (he0 : -5000 ≤ e) (he1 : e ≤ 5000) (w : World) : Calls Tryz.prog 192 #[.int .u64 m, .int .i64 e] w fun e' w' => e' = .returned (.tuple #[.float .f64 (packB m e).1.toNat, errV (packB m e).2]) ∧ w = w' := by
  have hp : packB m e = packB m e := rfl
  conv at hp => rhs; unfold packB
  generalize packB m e = R at *
  by_cases h1 : bits .and .u64 m 4503599627370496 = 0
  · rw [if_pos h1] at hp
    subst hp
    have h2 : (bits .and .u64 m 4503599627370496 == 0) = true := by simpa using h1
    go_enter Tryz.func192, Tryz.ntmps192
    go_wp2_with (first | (simp only [sfrom_call]) | fail)
    go_returns
    exact ⟨rfl, rfl⟩
  · rw [if_neg h1] at hp
    have h2 : (bits .and .u64 m 4503599627370496 == 0) = false := by simpa using h1
    by_cases h3 : 972 ≤ e
    · rw [if_pos h3] at hp
      subst hp
      go_enter Tryz.func192, Tryz.ntmps192
      go_wp2_with (first | (simp only [sfrom_call]) | fail)
      go_returns
      exact ⟨rfl, rfl⟩
    · rw [if_neg h3] at hp
      subst hp
      go_enter Tryz.func192, Tryz.ntmps192
      go_wp2_with (first | (simp only [sfrom_call]) | fail)
      go_returns
      exact ⟨rfl, rfl⟩
end Go.Proofs.YtnccpddjdgndcaaGreatDoor.Pf
end

section
/- THE TABLE OF TENS AND FRACTIONS: a scaled number is near a whole one only where it is one. No walk. -/
namespace Go.Proofs.YtnccpddjdgndcaaGreatDoor.Nt
open Go.Proofs.YtnccpddjdgndcaaGreatDoor.Fmt
def certs : List (Nat × Nat) := [
  (49862782167533620, 136731968122592083), (79780451468053792, 116786855255578635), (132262837463289352, 23357371051115727), (113634299718216631, 46714742102231454), (64139616728179234, 90649543316656965), (129649106269397185, 18129908663331393), (25929821253879437, 124379277161084446), (122355210375296202, 79813530547426555), (138241307092507966, 15962706109485311), (128724970940635617, 31925412218970622), (19359911744332999, 139243827285766982), (54952641899219595, 142370920619546384), (43962113519375676, 131380392239702465), (35372070142870366, 122790348863197155), (141488280571481464, 24558069772639431), (82325409614103041, 98232279090557724), (56316206005409623, 88129944958318989), (40152471393827647, 136107418522810331), (37022470525562169, 123587415049748419), (88961437240073919, 138503911238698000), (122521309984668638, 116662219487813519), (28019716295046799, 116662219487813519), (10291215656493455, 141828005108426752), (2058243131298691, 143313935386176662), (4116486262597382, 140066948032678043), (107071208869278754, 37069659384249849), (14000309897005781, 134278327639993615), (82856905116021847, 109712570644020570), (104799419244825961, 87770056515216456), (13623490183687604, 131263769933448199), (50775036317327327, 97831148217231565), (89907495604219953, 78264918573785252), (135184555470255695, 44630435738184211), (108147644376204556, 98704257926286489), (66777263915706347, 98704257926286489), (112644365888336971, 84764149964236007), (56209832724975174, 140973982689211181), (16773069642137903, 140973982689211181), (136261483650362009, 102715344366086203), (67923049173855126, 102715344366086203), (95424577085518582, 102715344366086203), (135052561375839539, 46918751570888578), (88133809804950961, 90415287139681439), (126125106528607919, 109410935501509918), (73849882049380369, 80843079990368734), (143503845334167719, 2797279176395346), (117040899608450452, 32057504078507959), (4173677474585315, 143770740814260167), (3338941979668252, 143770740814260167), (116273675167865302, 51458953624596147), (141806740175153787, 89954962940538463), (95454399552015337, 89954962940538463), (132536272050526097, 15791217943516943), (142576676329367206, 15791217943516943), (37990066031983607, 139145003838034986), (70945170915550381, 81015093212384047), (46595071468063695, 137680086977281408), (74552114348901912, 109723044096443191), (97338774138954421, 103530909117698806), (97338774138954421, 102292482121949929), (97338774138954421, 124732461739538118), (97338774138954421, 60850459736048726), (7297662880581139, 141234558616058958), (29190651522324556, 116334659067188923), (34943192422367607, 127839740867275025), (95454333018190219, 51135896346910010), (44318436671280209, 126135870826336225), (94772785001814699, 100908696661068980), (94772785001814699, 80726957328855184), (100391116070998505, 77917791794263281), (118074238222662683, 37761345365863879), (8510309498186985, 142535071965268531), (1702061899637397, 142872302534633606), (6808247598549588, 139889308743212485), (96060337734138377, 68827347339940025), (123591276670114387, 110123755743904040), (79541774372552771, 88099004595123232), (102295913425119694, 125050052477686617), (36367537559534493, 127384093769802185), (72735075119068986, 87321175067455367), (133840355204001451, 110580765135728409), (36071907068109507, 138570443066801227), (128715428404066865, 113143228535695702), (25743085680813373, 143655885973022332), (17606377030859605, 135519177323068564), (3521275406171921, 140651312988675262), (14085101624687684, 135881290026595835), (137869180514708237, 27176258005319167), (122756160004384178, 27176258005319167), (141501741219838839, 54352516010638334), (17429845041840101, 130260838833352831), (97421932642125395, 125124485116890386), (38968773056850158, 113858264534805219), (117515930097699525, 38359162129701107), (94012744078159620, 53215138239862309), (75210195262527696, 109622784686758081), (143537872640209315, 13765035769692154), (14942538758349709, 140005363674236650), 
  (42943611493197039, 112004290939389320), (85887222986394078, 87745327868952767), (131473621154042720, 18292307526814029), (141763511976862234, 18292307526814029), (67680789306833311, 104265404360461369), (133166202293497500, 35486926893543497), (115386648269641997, 124240334704485994), (94080055902682397, 102933742337526394), (94080055902682397, 51797920656823354), (94080055902682397, 79070358886531642), (94080055902682397, 82072298289761793), (58849585064193559, 105295011515330027), (58849585064193559, 119545760250780157), (70250184052553663, 94897972151666910), (51270589622220281, 100566165820446775), (91497055950398991, 80452932656357420), (91497055950398991, 64362346125085936), (10853883930125222, 134151634215234483), (130418846607716711, 58002207258143882), (89851749416258803, 107286859482944777), (129279471196099519, 28431415923263345), (106534338457488843, 45490265477221352), (121619683147768156, 136705027838047469), (139909481901210062, 33375143443721219), (131952671587200781, 66750286887442438), (131952671587200781, 132571832462274419), (131952671587200781, 79666931652379379), (89628750939284749, 69705112365474009), (85644023224522601, 69705112365474009), (54574196106523279, 124279308471997288), (97043659205885974, 60626562610103571), (63068088726395818, 89719080857009233), (142126772731159685, 10660396852245366), (74615666786450445, 78171502796954606), (29846266714580178, 141419872236619123), (119385066858320712, 52160987818987967), (107558526462932392, 52160987818987967), (11079507728788885, 142166904903218558), (2215901545757777, 143214522827381048), (4431803091515554, 140719256501846607), (17727212366062216, 131848043641833285), (96836038551162187, 105478434913466628), (15910249165310661, 132780167559678172), (31820498330621322, 119935113518176045), (55807521034256531, 95948090814540836), (134920830620400653, 16056227912113722), (62307867530730319, 126532779179185207), (124615735061460638, 38151538165528019), (134278266807541558, 47814069911608939), (111088190616947350, 135712184337962081), (88870552493557880, 135712184337962081), (71096441994846304, 100163963340538929), (53655929187430729, 100163963340538929), (125915072036104738, 81560749679295649), (118473786571607426, 74119464214798337), (135863446998121322, 20776921214557517), (108365373957098073, 41553842429115034), (98262298317550871, 88159222678003669), (98262298317550871, 101749836957785522), (117217250253014115, 41397442511161139), (93773800202411292, 88284342612366785), (134576994837402513, 70627474089893428), (12789904149501817, 141820950715053725), (105103615040021647, 53943998442014379), (31252646327605783, 122018054785240167), (123813573100349946, 123215066995313353), (99290260922294594, 98691754817258001), (119986221653804743, 79192806295821038), (103668855510611261, 71034123224224297), (125555558343023587, 71034123224224297), (136459845366783445, 49225549176704581), (109167876293426756, 103809487323417959), (133144807140115626, 18618541876680073), (56981631231382265, 131455798738102557), (11396326246276453, 138348102579010826), (45585304985105812, 125678026233779661), (138971492699624991, 43369727240798257), (45142189436244301, 121246870745164551), (90284378872488602, 75584061959812401), (51230563940957921, 99937559978666881), (41489164733416129, 119420358393750465), (41489164733416129, 137025451448416501), (82978329466832258, 112895011206149181), (93590659012335325, 102282681660646114), (18718131802467065, 128358749605578481), (3743626360493413, 142815988733466037), (29949010883947304, 137877087473100867), (99453043616093703, 79110043696398190), (67809026137534427, 131097061094652979), (69617422609700777, 132001259330736154), (66723988254234617, 127661107797536914), (133447976508469234, 64409240769861689), (110461977181772072, 64409240769861689), (31302942718736491, 128818481539723378), (31302942718736491, 121836550863020597), (143808343983906221, 11846133085109523), (143477394591387832, 11846133085109523), 
  (54756971705518517, 102141504045956609), (2948975746032170, 143829005298253733), (2359180596825736, 142649414999840865), (42684966580922589, 118618177355464823), (29385668903474731, 141354197420215625), (117542675613898924, 28270839484043125), (142228964440695446, 5654167896808625), (141098130861333721, 4523334317446900), (139288797134354961, 7237334907915040), (142183731097520977, 5789867926332032), (143076131160878429, 23159471705328128), (143076131160878429, 8439928496349319), (133028747620671245, 141468676117020564), (106422998096536996, 61651427544617817), (60477827459382470, 93063941359544399), (48382261967505976, 105159506851420893), (88767068124792545, 72772156504353731), (142027308999668072, 72772156504353731), (70661954098930097, 73475557306161609), (70661954098930097, 87045227484501326), (137847915177618811, 20685700174014511), (44118143174735371, 126860943870793415), (125728195150624118, 25372188774158683), (105656993875331031, 50744377548317366), (134436324892842931, 112471278362037465), (89447813548027945, 89977022689629972), (71558250838422356, 126285357250443177), (136384043906284098, 61459564182581435), (124092131069767811, 49167651346065148), (74924479723702663, 108638034043185302), (73425005506755186, 107138559826237825), (143706038270287789, 21427711965247565), (137418092783842623, 17142169572198052), (99480730760000343, 68568678288792208), (6182410494241627, 138261682281853038), (12364820988483254, 134102505703600613), (142667713398519674, 46604214722293329), (123455013663274405, 46604214722293329), (24691002732654881, 137034853423863554), (24691002732654881, 135306356187155091), (49382005465309762, 118319149579764727), (142378306569675076, 13787428822890993), (114858523684012201, 55149715291563972), (139653865661168344, 79945057268720115), (135406628238640481, 31978022907488046), (84641766881206579, 86540649497491210), (50025507082210095, 119258026680203063), (20010202832884038, 128459937779543917), (110377391707702675, 49704230955369629), (93855187638450699, 99408461910739258), (76194804965218271, 81748079237506830), (141593268355223735, 130796926780010928), (28318653671044747, 126726555725417254), (113274614684178988, 98973810689799793), (11440643195503356, 137884244603206967), (57322521228950119, 126204990904836933), (121581011526062255, 126204990904836933), (116957032147287577, 77572586294412031), (124594660235594874, 77572586294412031), (3294312317590731, 141967923318461138), (66011243816638502, 85839616454594829), (122785913397540569, 104312764926067699), (126480543091835143, 111702024314656847), (126480543091835143, 128131021666716898), (126480543091835143, 127800925951740547), (24767955474404867, 129121308811645951), (96230843378587141, 142925775808364548), (119454381980949827, 37924141647628391), (8721219737138609, 142975346853374955), (120670087060579409, 28595069370674991), (118154163229427631, 115638239398275853), (118154163229427631, 45248926226849630), (127203948474797557, 36199140981479704), (7442610212143378, 141075258819847127), (74292368037082958, 96553331631337681), (10406280888565647, 141075258819847127), (57352638251953237, 88807667647334535), (132466810033373381, 35523067058933814), (134391901673845756, 136316993314318131), (143652846716987137, 1540073312377900), (143960861379462717, 1232058649902320), (143960861379462717, 985646919921856), (50082145746204633, 108049466851784114), (116488860929150071, 66406715182945438), (113223947041801910, 63141801295597277), (131076169520678423, 80994023774473790), (98678560010888907, 64795219019579032), (6776668198261975, 143977516707862553), (10842669117219160, 135845514869948183), (8674135293775328, 142351116340279679), (75310553854442707, 115924566533784102), (42819343710969591, 107801763997915823), (77376180567942002, 107801763997915823), (114411769481113567, 33730586171572693), (142679123100482873, 4102115041035441), (46585130800652515, 109578721765446794), (18634052320261006, 135304208089719061), (74536209281044024, 116504292755196641), 
  (76416200814496266, 122144267355553367), (94829081378559765, 70278573959808433), (108210206511232339, 140557147919616866), (134320000727910310, 32346941408384527), (139802941990712775, 32346941408384527), (27960588398142555, 129387765633538108), (11184235359257022, 142879177999042195), (44736941437028088, 106865483114607593), (121785115975568363, 57162649772543989), (2983926572192154, 143608691782699567), (47818868418569699, 131520898966940481), (11950914941467663, 143471813908408144), (90851287399472714, 88473271333338419), (951206426453718, 143178714527569849), (108926424236721885, 71349340922542966), (81147653008867673, 93134625769887343), (90737231217683409, 100326809426499145), (50606507447083751, 130867954988283067), (38744531409437525, 124936966969459954), (132685873251347459, 101690248123797439), (132685873251347459, 107889373149307443), (125985898682709980, 44896423807952453), (100788718946167984, 95290783281036445), (136340682597769890, 19058156656207289), (128130702734423201, 38116313312414578), (86612241846747965, 65853011402910347), (17322448369349593, 142154907026194237), (69289793477398372, 118507712925856731), (142978668010141416, 51417459976130695), (132695176014915277, 41133967980904556), (133487351953334901, 31048519970283323), (0, 0), (0, 0), (0, 0), (0, 0), (0, 0), (0, 0), (0, 0), (0, 0), (0, 0), (0, 0), (0, 0), (0, 0), (0, 0), (0, 0), (0, 0), (0, 0), (0, 0), (0, 0), (0, 0), (0, 0), (0, 0), (0, 0), (0, 0), (0, 0), (0, 0), (0, 0), (0, 0), (0, 0), (0, 0), (0, 0), (0, 0), (0, 0), (0, 0), (0, 0), (0, 0), (0, 0), (0, 0), (0, 0), (0, 0), (0, 0), (0, 0), (0, 0), (0, 0), (0, 0), (0, 0), (0, 0), (0, 0), (0, 0), (0, 0), (0, 0), (0, 0), (0, 0), (127303464845611401, 19878221219133763), (124934648107946413, 54897030182071313), (110927124522771393, 54897030182071313), (77309067918351345, 109794060364142626), (15461813583670269, 136185430896968096), (30923627167340538, 137967965710606691), (123694508669362152, 77071396609866199), (89630984523590531, 86015744928189156), (91077080361751081, 88184888685429981), (89341765355958421, 87028012014901541), (89804516024169797, 86102510678478789), (37402608547944322, 123505119226423111), (79324134528924702, 123505119226423111), (45786913744140398, 111255426267067017), (122982295490522279, 62816936004482966), (99976782303484015, 51314179410963834), (79981425842787212, 122623715282624471), (46928224898294866, 136498739236426991), (64842327765921291, 136498739236426991), (107836174648224711, 114650258352809120), (39046019636539239, 130766226318786535), (130030833282399649, 26153245263757307), (124358948407816056, 26153245263757307), (96819420837889575, 52306490527514614), (19363884167577915, 131770425439746796), (15491107334062332, 135739215373479353), (107701601211819997, 45737171875570669), (107701601211819997, 79670377985184534), (134848166099511089, 52523813097493442), (140808274080415930, 58483921078398283), (112646619264332744, 58483921078398283), (125207648058505165, 58483921078398283), (100166118446804132, 91926312545095533), (138584604645184065, 15089340148335667), (27716920929036813, 143508123380453107), (97811507850424910, 61961929790934797), (101086532931104761, 123923859581869594), (67166830354424909, 90004157005189742), (112034393897232821, 134871720547997654), (98762445778092190, 121599772428857023), (79009956622473752, 141352261584475461), (131480781600006997, 21603391652706275), (131480781600006997, 17282713322165020), (141850409593306009, 13826170657732016), (121058289466086847, 117575314731343274), (96150036625920763, 92667061891177190), (77616624247685325, 74133649512941752), (124186598796296520, 120703624061552947), (99349279037037216, 95866304302293643), (58912972475273615, 132819636129313671), (94260755960437784, 132819636129313671), (143105433502925277, 90832156835900582), (143105433502925277, 101286812169305521), (77499535835031215, 95149105337097224), (61999628668024972, 110649012504103467), (104539503801618546, 71729505435240671), 
  (111101503474894121, 58605506088689521), (111101503474894121, 69104705565930441), (94302784311308649, 60705345984137705), (94302784311308649, 97128553574620328), (112598187320908043, 39416575282510467), (121611810082734808, 39416575282510467), (132184792527399627, 32205677073049055), (106420250868960383, 51529083316878488), (114036400144173355, 92079933123340597), (91229120115338684, 137694493181009939), (63349896275935931, 137694493181009939), (103558774167325105, 57276737398231591), (20711754833465021, 125548175425601259), (115730297782441891, 49963740885278277), (43131555910599689, 113591851719913730), (106676297387816321, 65849926254582435), (80336326885983347, 105359882007331896), (133542834041843065, 79283194581595807), (106834267233474452, 79283194581595807), (112344481763850181, 68262765520844349), (3980133393033463, 140505664434722161), (56998292452495557, 106036318118924188), (113996584904991114, 73429396004640239), (138336898245201639, 105883147124920939), (125355397797089359, 99392396900864799), (120162797617844447, 78621996183885151), (120162797617844447, 134995275517814789), (120162797617844447, 35898541843545163), (26525993941010681, 143594167374180652), (26525993941010681, 125485731475748794), (136506320847394619, 30402345083351895), (138633859272663083, 12160938033340758), (98260212447909013, 48643752133363032), (29380792916254409, 135813422700943310), (58761585832508818, 142467747829140551), (140824281293648066, 4988915232824583), (137150139289217471, 9977830465649166), (35412292230362827, 110735906323322318), (35412292230362827, 127600240994807751), (35412292230362827, 123327568134063897), (123819931871828695, 105990694822206082), (134714419596708182, 31698735699108865), (141054166736529955, 25358988559287092), (53569821906593083, 101435954237148368), (78419964414852995, 116712870279297223), (31367985765941198, 123637790377800253), (112557918220195405, 99643893376626018), (22511583644039081, 121803637691835714), (45023167288078162, 125260839466467161), (133107769384681021, 86122869617049394), (46984899767631627, 128399611433752705), (136579754497025426, 25679922286750541), (124899655589057141, 102719689147002164), (33851917694633419, 127227527715260955), (135407670778533676, 93149340932319029), (45711402342170541, 144040352018423411), (117468417091261049, 130754384554842230), (117468417091261049, 104603507643873784), (2572981889477453, 143104968401407665), (90372559027740405, 69788703911920781), (18074511805548081, 134558721203298476), (18074511805548081, 129336391129296478), (18074511805548081, 138255080945791657), (18074511805548081, 135908381284400639), (18074511805548081, 141260826277507057), (36149023611096162, 132417280094304763), (79605335832240255, 69862284352176347), (133546553017968551, 69862284352176347), (54654224344464249, 115486464375312641), (88682362088419627, 94860377774803770), (139420573066917746, 107654437643380381), (6353227084707473, 138369304676977766), (25412908338829892, 132857092304222277), (123140470148398045, 21488836793078477), (70745024852437695, 113722698438594649), (28298009940975078, 129463679433165199), (113192039763900312, 93807959744973227), (109315223760114895, 93807959744973227), (87452179008091916, 122026785233877517), (21151029112922526, 143177814346800043), (74191949029058038, 143177814346800043), (138228881135367071, 13797173063548401), (140936885648100139, 13797173063548401), (130879488802401421, 27594346127096802), (56452216379763411, 92402328465512609), (119083635876220816, 62631419496457405), (138124878224013277, 12526283899291481), (97772165480834949, 100210271194331848), (116838977434302559, 40571729620432119), (116838977434302559, 55825179183206207), (59976074437518323, 111650358366412414), (13655572989228511, 130659713836245204), (141211464052198273, 28863057365094743), (118741782714777567, 28863057365094743), (30178878666854181, 115452229460378972), (134612213701899031, 104433335035044850), (134612213701899031, 83546668028035880), 
  (117902880096291855, 133674668844857408), (23580576019258371, 133828883052037325), (94322304077033484, 73926928648924207), (83615993432870498, 84633239293087193), (144035548698916688, 203449172043339), (67177623587157073, 135169043862487502), (93885913684385231, 67991420275330429), (93885913684385231, 129501867167772528), (60862349554153266, 96478303037540563), (34443498249967694, 122897154341726135), (59022929118312921, 98317723473380908), (114067936249692479, 55045007131379558), (142450614281337683, 44831590102490319), (100220667020252047, 79105693389709229), (24267128130158973, 133944258649259485), (48534256260317946, 131422535049566561), (127826402009872892, 16577655757849723), (119797746176333015, 62036123069243969), (47919098470533206, 128346746100642861), (143419805304067031, 16085529526021931), (41552384681630951, 105894502785718675), (102672837055092599, 42357801114287470), (119615957500807587, 33886240891429976), (98878567213628533, 78141176926449479), (110359324541482618, 78141176926449479), (32218147615033139, 137913142128332422), (113157922558392619, 48721627328326341), (129503639909375168, 16345717350982549), (126486916218875703, 32691434701965098), (37518192606764242, 121660158314076559), (140748015806947353, 9324754620109615), (143154989496025403, 1864950924021923), (140438807009787927, 3729901848043846), (112383543167748505, 127303150559923889), (22476708633549701, 141833567770952773), (89906834534198804, 82310814274709837), (127388772399776119, 104849793337242978), (67417671814852415, 97203956734567259), (53934137451881932, 124171025460508225), (136968207263544151, 78768342543983577), (136968207263544151, 98635706617664893), (50393141840236385, 98635706617664893), (20157256736094554, 126721014658998847), (73721619098426699, 133628422504950364), (49758897735817233, 97684340461036165), (119054663563841699, 39073736184414466), (31625679949651233, 122835809777408330), (63251359899302466, 144011363759917031), (142654720570727845, 32304001544245826), (117896833886682533, 125442948746883047), (138457754719938834, 28107035693456815), (144079161858630197, 22485628554765452), (144079161858630197, 93608670431076802), (123890965287608839, 83514572145566123), (131413886743721244, 58184021915748217), (64202359080638141, 116368043831496434), (20062476413995537, 124393845915712123), (77845005345878601, 115565057863766128), (125032988615426471, 30657022076330731), (68407408691969027, 122628088305322924), (136814817383938054, 62732717060522975), (135617657234725563, 25093086824209190), (110524570410516373, 40148938918734704), (6045338514609393, 142459740131110637), (142985416975013596, 65447369972897405), (77538047002116191, 104715791956635848), (25579669809942545, 131094499338866949), (5115933961988509, 140682950206329621), (40927471695908072, 116130654187468279), (95565227710076998, 61492898173299353), (88750761802721469, 61492898173299353), (84694623259728070, 118929657803605307), (67755698607782456, 85051808499714079), (74388394372566298, 98317200029281763), (143991027613789503, 19143044525372372), (130507257711329500, 117023487808869497), (104405806169063600, 117023487808869497), (133550446996883143, 33498842873618617), (133639431896401408, 33498842873618617), (33427654954004005, 133995371494474468), (13371061981601602, 141535157520650613), (53484247926406408, 97836553808458453), (142973302294342360, 8870461176410409), (140990025364705115, 8870461176410409), (130532942644584910, 83007393675113273), (104426354115667928, 83007393675113273), (108710146203778859, 91574977851335135), (72080155063244805, 74439809498891411), (28832062025297922, 134463587985133861), (115328248101191688, 38425542407145941), (115317923925240915, 76851084814291882), (92254339140192732, 53787500029243699), (26144235650228353, 133719235708715751), (137149248364217030, 101146929945412133), (109719398691373624, 128576779618255539), (140930976120760239, 3771476185376383), (143271380952011233, 3771476185376383), (137272790329242077, 15085904741505532), 
  (88398036094147459, 79046563718105682), (60519999557321897, 116276072630973021), (121039999114643794, 34406429140924829), (120793000266081037, 86139572276593451), (128316483100529171, 20594457714842346), (21544405077137365, 125466641013644114), (138393284059926533, 121157759998216641), (137884192493679136, 13890237562617393), (143643924145225052, 13890237562617393), (122300972149940253, 59287307466803275), (114169867872913301, 47429845973442620), (133141806262290349, 37943876778754096), (34217136608208889, 117558370506807495), (91945947317779277, 94046696405445996), (36358229109578367, 113276185504068539), (80828403676139095, 97052294590103817), (64662722940911276, 97052294590103817), (6454630258343747, 142933228543352882), (91842022240439297, 66023501207064309), (23532108654762857, 132047002414128618), (15948395095747419, 140411683950860599), (90626368408815327, 99570631084090544), (139635631848939393, 74289947262107305), (109919652944096471, 118863915619371688), (109919652944096471, 51123271317858762), (134972827656267344, 42433239115962799), (103374395939986507, 132717121047729378), (65093881687343483, 94436606795086354), (130187763374686966, 24755866380565845), (105431896994121121, 39609386208905352), (36930133882386365, 121507410953235043), (29544107105909092, 136279464506189589), (143723356494027050, 15438250058874281), (103804092774233663, 134680592891982225), (49931855617440773, 107744474313585780), (93029645342875085, 79361513558862163), (37211858137150034, 140117098049149309), (53842668291900213, 95004764256699923), (107685336583800426, 86772345063739981), (95137541671764159, 78407148455715803), (123154322410840809, 78407148455715803), (78327473228318169, 111987447728908966), (76125968382890854, 109785942883481651), (77887172259232706, 113308350636165355), (55225502131999635, 90646680508932284), (101691780935332211, 115022758459465006), (142813768763499503, 2666195504826559), (141979448260995816, 2666195504826559), (121846949622166366, 71588256830389419), (38687041290511157, 131604862159513048), (120689784472039787, 34058380690004841), (21029209236812042, 125718918141613343), (100757669424994238, 109078085663867273), (102421752672768845, 109078085663867273), (13828017543455341, 136218769189519470), (68315525219263129, 108975015351615576), (68315525219263129, 141832432456702964), (38908762324287195, 117627051579903736), (31127009859429756, 125408804044761175), (56208770668381991, 100327043235808940), (116404996609867355, 44118272567426949), (23280999321973471, 129911091625760854), (23280999321973471, 122553672758187460), (91894262058229863, 94353732517557905), (129635755065253025, 75482986014046324), (103708604052202420, 49555835000995719), (12669327430325733, 140595111622872406), (35720618782769921, 127925784192546673), (35720618782769921, 123772998623699291)]
/-- a row as one number; ten to it, scaled; the unit of the scale -/
def pm (i : Nat) : Nat := hiT i * 18446744073709551616 - loT i
def pw2 (e : Int) : Nat := 2 ^ (e + 2000).toNat
def pw10 (p : Int) : Nat := 10 ^ (p + 400).toNat
def gT (i : Nat) : Nat := pw2 0 * pw10 ((i : Int) - 348)
def kT (i : Nat) : Nat := pw2 (lg2 ((i : Int) - 348) - 127) * pw10 0
def chk (i : Nat) : Bool :=
  if 324 ≤ i ∧ i ≤ 375 then decide (288230376151711744 * kT i ≤ Nat.gcd (gT i) (85070591730234615865843651857942052864 * kT i))
  else
    let y := certs.getD i (0, 0)
    let p := pm i
    let n1 := y.1 * p / 85070591730234615865843651857942052864
    let n2 := y.2 * p / 85070591730234615865843651857942052864 + 1
    decide (n2 * y.1 = n1 * y.2 + 1) && (decide (144115188075855872 ≤ y.1 + y.2) && (decide (n1 * 85070591730234615865843651857942052864 + 144115188075855872 < y.1 * p) && decide (y.2 * p + 144115188075855872 ≤ n2 * 85070591730234615865843651857942052864)))
theorem chk_all : ∀ i, i < 696 → chk i = true := by decide +kernel
theorem pm_near : ∀ i, i < 696 → gT i ≤ pm i * kT i ∧ pm i * kT i < gT i + kT i := by decide +kernel
theorem lo_lt : ∀ i, i < 696 → loT i < 18446744073709551616 := by decide +kernel
end Go.Proofs.YtnccpddjdgndcaaGreatDoor.Nt
end

section
/- A SCALED NUMBER TELLS ON WHICH SIDE OF A QUARTER THE EXACT ONE STANDS. No walk. -/
namespace Go.Proofs.YtnccpddjdgndcaaGreatDoor.Nt
open Go.Proofs.YtnccpddjdgndcaaGreatDoor.Fmt
/-- between two fractions that are neighbours none has a smaller denominator than both together -/
theorem apart_int (P T W Y n1 y1 n2 y2 y n : Int) (hdet : n2 * y1 = n1 * y2 + 1) (hY : Y ≤ y1 + y2) (h1 : n1 * T + W < y1 * P) (h2 : y2 * P + W ≤ n2 * T) (_hW : 0 ≤ W)
    (hp1 : 0 ≤ y1) (hp2 : 0 ≤ y2) (hy0 : 1 ≤ y) (hy : y < Y) (ha : n * T < y * P + W) (hb : y * P ≤ n * T + W) : False := by
  obtain ⟨α, hα⟩ : ∃ α, α = y * n2 - n * y2 := ⟨_, rfl⟩
  obtain ⟨β, hβ⟩ : ∃ β, β = n * y1 - y * n1 := ⟨_, rfl⟩
  have e1 : α * y1 + β * y2 = y := by subst hα hβ; grind
  have e2 : α * (y1 * P - n1 * T) - β * (n2 * T - y2 * P) = y * P - n * T := by subst hα hβ; grind
  have g1 : W < y1 * P - n1 * T := by omega
  have g2 : W ≤ n2 * T - y2 * P := by omega
  clear hα hβ h1 h2 hdet
  generalize y1 * P - n1 * T = E1 at *
  generalize n2 * T - y2 * P = E2 at *
  rcases Int.lt_or_le 0 α with a | a <;> rcases Int.lt_or_le 0 β with b | b
  · have := Int.mul_le_mul_of_nonneg_right (show 1 ≤ α by omega) hp1
    have := Int.mul_le_mul_of_nonneg_right (show 1 ≤ β by omega) hp2
    omega
  · have i1 := Int.mul_le_mul_of_nonneg_right (show 1 ≤ α by omega) (show 0 ≤ E1 by omega)
    have i2 := Int.mul_le_mul_of_nonneg_right b (show 0 ≤ E2 by omega)
    omega
  · have i1 := Int.mul_le_mul_of_nonneg_right (show 1 ≤ β by omega) (show 0 ≤ E2 by omega)
    have i2 := Int.mul_le_mul_of_nonneg_right a (show 0 ≤ E1 by omega)
    omega
  · have i1 := Int.mul_le_mul_of_nonneg_right a hp1
    have i2 := Int.mul_le_mul_of_nonneg_right b hp2
    omega
theorem apart (P T W Y n1 y1 n2 y2 y n : Nat) (hdet : n2 * y1 = n1 * y2 + 1) (hY : Y ≤ y1 + y2) (h1 : n1 * T + W < y1 * P) (h2 : y2 * P + W ≤ n2 * T)
    (hy0 : 1 ≤ y) (hy : y < Y) (ha : n * T < y * P + W) (hb : y * P ≤ n * T + W) : False :=
  apart_int P T W Y n1 y1 n2 y2 y n (by exact_mod_cast hdet) (by exact_mod_cast hY) (by exact_mod_cast h1) (by exact_mod_cast h2) (by omega) (by omega) (by omega) (by omega) (by omega) (by exact_mod_cast ha) (by exact_mod_cast hb)
/-- two multiples of c that stand nearer than c are one -/
theorem mult_eq (c a b x y : Nat) (hx : x = c * a) (hy : y = c * b) (h1 : x < y + c) (h2 : y < x + c) : x = y := by
  have a1 : a < b + 1 := Nat.lt_of_mul_lt_mul_left (a := c) (by rw [Nat.mul_add]; omega)
  have a2 : b < a + 1 := Nat.lt_of_mul_lt_mul_left (a := c) (by rw [Nat.mul_add]; omega)
  have : a = b := by omega
  rw [hx, hy, this]
/-- y * row is near a multiple of 2^126 only if y * ten's power is one -/
theorem near (i : Nat) (hi : i < 696) (y n : Nat) (hy0 : 1 ≤ y) (hy : y < 144115188075855872)
    (ha : n * 85070591730234615865843651857942052864 < y * pm i + 144115188075855872) (hb : y * pm i ≤ n * 85070591730234615865843651857942052864 + 144115188075855872) :
    y * gT i = n * 85070591730234615865843651857942052864 * kT i := by
  have hc := chk_all i hi
  obtain ⟨p1, p2⟩ := pm_near i hi
  unfold chk at hc
  split at hc
  · have hg := of_decide_eq_true hc
    have hk : 0 < kT i := by omega
    obtain ⟨a0, ea⟩ := Nat.gcd_dvd_left (gT i) (85070591730234615865843651857942052864 * kT i)
    obtain ⟨b0, eb⟩ := Nat.gcd_dvd_right (gT i) (85070591730234615865843651857942052864 * kT i)
    generalize Nat.gcd (gT i) (85070591730234615865843651857942052864 * kT i) = c at *
    generalize pm i = P at *
    generalize gT i = G at *
    generalize kT i = K at *
    have ha' := Nat.mul_lt_mul_of_pos_right ha hk
    have hb' := Nat.mul_le_mul_right K hb
    have e3 := Nat.mul_le_mul_left y (Nat.le_of_lt p2)
    have e4 := Nat.mul_le_mul_left y p1
    have e5 : y * K ≤ 144115188075855872 * K := Nat.mul_le_mul_right K (Nat.le_of_lt hy)
    have e6 : y * K < 144115188075855872 * K := Nat.mul_lt_mul_of_pos_right hy hk
    refine mult_eq c (y * a0) (n * b0) _ _ ?_ ?_ ?_ ?_
    · rw [ea]; grind
    · rw [Nat.mul_assoc, eb]; grind
    · grind
    · grind
  · exfalso
    simp only [Bool.and_eq_true, decide_eq_true_eq] at hc
    obtain ⟨c1, c2, c3, c4⟩ := hc
    exact apart _ _ _ _ _ _ _ _ y n c1 c2 c3 c4 hy0 hy ha hb
end Go.Proofs.YtnccpddjdgndcaaGreatDoor.Nt
end

section
/- usc GIVES THE EXACT NUMBER, UNROUNDED. No walk. -/
namespace Go.Proofs.YtnccpddjdgndcaaGreatDoor.Nt
open Go.Proofs.YtnccpddjdgndcaaGreatDoor.Fmt
/-- U stands for N / D: itself where it is even, between its neighbours where it is odd -/
def Unr (U N D : Nat) : Prop := (U % 2 = 0 → N = U * D) ∧ (U % 2 = 1 → (U - 1) * D < N ∧ N < (U + 1) * D)
theorem or1 (a : Nat) : a ||| 1 = 2 * (a / 2) + 1 := by
  have h1 : (a ||| 1) / 2 = a / 2 := by rw [Nat.or_div_two]; exact Nat.or_zero _
  have h2 : (a ||| 1) % 2 = 1 := Nat.or_mod_two_eq_one.2 (Or.inr rfl)
  omega
theorem unr_or (h N D : Nat) (h1 : h * D < N) (h2 : N < (h + 1) * D) : Unr (h ||| 1) N D := by
  rw [or1]
  refine ⟨fun e => by omega, fun _ => ?_⟩
  have a1 : (2 * (h / 2) + 1 - 1) * D ≤ h * D := Nat.mul_le_mul_right D (by omega)
  have a2 : (h + 1) * D ≤ (2 * (h / 2) + 1 + 1) * D := Nat.mul_le_mul_right D (by omega)
  exact ⟨Nat.lt_of_le_of_lt a1 h1, Nat.lt_of_lt_of_le h2 a2⟩
theorem unr_eq (h N D : Nat) (h0 : 0 < D) (h1 : N = h * D) : Unr h N D := by
  refine ⟨fun _ => h1, fun e => ?_⟩
  rw [h1]
  exact ⟨Nat.mul_lt_mul_of_pos_right (by omega) h0, Nat.mul_lt_mul_of_pos_right (by omega) h0⟩
theorem lower (L A x G K : Nat) (h1 : L + 18446744073709551616 ≤ A) (h2 : A * K < x * G + x * K) (hx : x < 18446744073709551616) : L * K < x * G := by
  have a := Nat.mul_le_mul_right K h1
  have b := Nat.mul_le_mul_right K (Nat.le_of_lt hx)
  rw [Nat.add_mul] at a
  omega
theorem upper (B A x G K : Nat) (h1 : A < B) (h2 : x * G ≤ A * K) (hK : 0 < K) : x * G < B * K :=
  Nat.lt_of_le_of_lt h2 (Nat.mul_lt_mul_of_pos_right h1 hK)
theorem usc_unr (i : Nat) (hi : i < 696) (x y S : Nat) (hxy : x = 128 * y) (hx0 : 4611686018427387904 ≤ x) (hx : x < 18446744073709551616) (hS : 5 ≤ S) :
    Unr (usc x (hiT i) (loT i) S) (x * gT i) (2 ^ S * 340282366920938463463374607431768211456 * kT i) := by
  obtain ⟨hh1, hh2⟩ := hiT_big i hi
  have hlo := lo_lt i hi
  obtain ⟨p1, p2⟩ := pm_near i hi
  have hnear := near i hi y
  have hK : 0 < kT i := by omega
  have hP : pm i = hiT i * 18446744073709551616 - loT i := rfl
  have hP2 : pm i + loT i = hiT i * 18446744073709551616 := by omega
  unfold usc
  generalize hiT i = hi at *
  generalize loT i = lo at *
  generalize gT i = G at *
  generalize kT i = K at *
  clear hP
  generalize pm i = P at *
  -- the product
  obtain ⟨H, hH⟩ : ∃ H, x * hi / 18446744073709551616 = H := ⟨_, rfl⟩
  obtain ⟨mid, hm⟩ : ∃ H, x * hi % 18446744073709551616 = H := ⟨_, rfl⟩
  obtain ⟨m2, hm2⟩ : ∃ H, x * lo / 18446744073709551616 = H := ⟨_, rfl⟩
  obtain ⟨r2, hr2⟩ : ∃ H, x * lo % 18446744073709551616 = H := ⟨_, rfl⟩
  have f1 : x * hi = H * 18446744073709551616 + mid := by omega
  have f2 : x * lo = m2 * 18446744073709551616 + r2 := by omega
  have f3 : x * P + x * lo = x * hi * 18446744073709551616 := by rw [← Nat.mul_add, hP2, Nat.mul_assoc]
  obtain ⟨A, hA⟩ : ∃ A, x * P = A := ⟨_, rfl⟩
  have g1 : x * G ≤ A * K := by rw [← hA, Nat.mul_assoc]; exact Nat.mul_le_mul_left x p1
  have g2 : A * K < x * G + x * K := by rw [← hA, Nat.mul_assoc, ← Nat.mul_add]; exact Nat.mul_lt_mul_of_pos_left p2 (by omega)
  have m2b : m2 < 18446744073709551615 := by
    have : x * lo < 18446744073709551615 * 18446744073709551616 := by
      have a1 : x * lo ≤ 18446744073709551615 * lo := Nat.mul_le_mul_right lo (by omega)
      have a2 : 18446744073709551615 * lo < 18446744073709551615 * 18446744073709551616 := by omega
      omega
    omega
  have hHb : 2305843009213693952 ≤ H := by
    have := Nat.mul_le_mul hx0 hh1
    omega
  have hHt : H < 18446744073709551616 := by
    have := Nat.mul_lt_mul'' hx hh2
    omega
  have midb : mid < 18446744073709551616 := by omega
  have r2b : r2 < 18446744073709551616 := by omega
  have f4 : A + m2 * 18446744073709551616 + r2 = H * 340282366920938463463374607431768211456 + mid * 18446744073709551616 := by omega
  rw [hH, hm, hm2]
  obtain ⟨q, hq⟩ : ∃ q, 2 ^ S = q := ⟨_, rfl⟩
  have hq0 : 0 < q := by rw [← hq]; exact Nat.two_pow_pos S
  rw [hq]
  obtain ⟨h, hh⟩ : ∃ h, H / q = h := ⟨_, rfl⟩
  obtain ⟨g, hg⟩ : ∃ g, H % q = g := ⟨_, rfl⟩
  have hdm : h * q + g = H := by rw [← hh, ← hg, Nat.mul_comm]; exact Nat.div_add_mod H q
  have hgq : g < q := by rw [← hg]; exact Nat.mod_lt _ hq0
  have hDp : 0 < q * 340282366920938463463374607431768211456 * K := Nat.mul_pos (Nat.mul_pos hq0 (by decide)) hK
  have hL : ∀ z, z * (q * 340282366920938463463374607431768211456 * K) = (z * q * 340282366920938463463374607431768211456) * K := by intro z; simp only [Nat.mul_assoc]
  rw [hh]
  by_cases c1 : h * q = H
  · rw [if_neg (by omega)]
    have hg0 : g = 0 := by omega
    by_cases c2 : mid < m2
    · -- one less
      rw [if_pos c2]
      have e1 : (mid + 18446744073709551616 - m2) % 18446744073709551616 = mid + 18446744073709551616 - m2 := Nat.mod_eq_of_lt (by omega)
      have e2 : (H + 18446744073709551616 - 1) % 18446744073709551616 = H - 1 := by omega
      rw [e1, if_pos (by omega), e2]
      have hh1 : 1 ≤ h := by
        rcases Nat.eq_zero_or_pos h with z | z
        · rw [z] at c1; omega
        · exact z
      obtain ⟨k, rfl⟩ : ∃ k, h = k + 1 := ⟨h - 1, by omega⟩
      have e3 : (H - 1) / q = k := by
        rw [Nat.div_eq_iff hq0]
        rw [Nat.add_mul] at c1
        omega
      rw [e3]
      rw [Nat.add_mul] at c1
      refine unr_or k _ _ ?_ ?_
      · rw [hL]; exact lower _ A x G K (by omega) g2 hx
      · rw [hL]; exact upper _ A x G K (by rw [Nat.add_mul]; omega) g1 hK
    · rw [if_neg c2]
      have e2 : (H + 18446744073709551616 - 0) % 18446744073709551616 = H := by omega
      have e1 : (mid + 18446744073709551616 - m2) % 18446744073709551616 = mid - m2 := by omega
      rw [e2, e1, hh]
      by_cases c3 : 1 < mid - m2
      · rw [if_pos c3]
        refine unr_or h _ _ ?_ ?_
        · rw [hL]; exact lower _ A x G K (by omega) g2 hx
        · rw [hL]; exact upper _ A x G K (by rw [Nat.add_mul]; omega) g1 hK
      · rw [if_neg c3, Nat.or_zero]
        refine unr_eq h _ _ hDp ?_
        obtain ⟨T, rfl⟩ : ∃ T, S = T + 5 := ⟨S - 5, by omega⟩
        have hqT : q = 2 ^ T * 32 := by rw [← hq, Nat.pow_add]
        have hyp : x * P = 128 * (y * P) := by rw [hxy, Nat.mul_assoc]
        have hn : h * q = (h * 2 ^ T) * 32 := by rw [hqT, Nat.mul_assoc]
        have := hnear (h * 2 ^ T) (by omega) (by omega) (by omega) (by omega)
        rw [hL, hn, hxy, Nat.mul_assoc, this]
        generalize h * 2 ^ T = n
        grind
  · rw [if_pos (by omega)]
    refine unr_or h _ _ ?_ ?_
    · rw [hL]; exact lower _ A x G K (by omega) g2 hx
    · rw [hL]; exact upper _ A x G K (by rw [Nat.add_mul]; omega) g1 hK
end Go.Proofs.YtnccpddjdgndcaaGreatDoor.Nt
end

section
/- THE SHORTEST DECIMAL LIES WHERE THE NUMBER IS THE NEAREST ONE. No walk. -/
namespace Go.Proofs.YtnccpddjdgndcaaGreatDoor.Nt
open Go.Proofs.YtnccpddjdgndcaaGreatDoor.Fmt
theorem pw2_pos (e : Int) : 0 < pw2 e := Nat.two_pow_pos _
theorem pw10_pos (e : Int) : 0 < pw10 e := Nat.pow_pos (by decide)
theorem pw2_add (a b c d : Int) (h : a + b = c + d) (ha : -2000 ≤ a) (hb : -2000 ≤ b) (hc : -2000 ≤ c) (hd : -2000 ≤ d) : pw2 a * pw2 b = pw2 c * pw2 d := by
  unfold pw2
  rw [← Nat.pow_add, ← Nat.pow_add]
  congr 1
  omega
theorem pw10_add (a b c d : Int) (h : a + b = c + d) (ha : -400 ≤ a) (hb : -400 ≤ b) (hc : -400 ≤ c) (hd : -400 ≤ d) : pw10 a * pw10 b = pw10 c * pw10 d := by
  unfold pw10
  rw [← Nat.pow_add, ← Nat.pow_add]
  congr 1
  omega
theorem pw2_step (e f : Int) (k : Nat) (h : f = e + k) (he : -2000 ≤ e) : pw2 f = pw2 e * 2 ^ k := by
  unfold pw2
  rw [← Nat.pow_add]
  congr 1
  omega
theorem pw10_step (e f : Int) (k : Nat) (h : f = e + k) (he : -400 ≤ e) : pw10 f = pw10 e * 10 ^ k := by
  unfold pw10
  rw [← Nat.pow_add]
  congr 1
  omega
theorem gT_eq (i : Nat) (p : Int) (h : p = (i : Int) - 348) : gT i = pw2 0 * pw10 p := by unfold gT; rw [h]
theorem kT_eq (i : Nat) (p : Int) (h : p = (i : Int) - 348) : kT i = pw2 (lg2 p - 127) * pw10 0 := by unfold kT; rw [h]
/-- where N stands among the even multiples of D -/
theorem Unr.le {U N D k : Nat} (h : Unr U N D) (h0 : 0 < D) (hk : k % 2 = 0) : k * D ≤ N ↔ k ≤ U := by
  obtain ⟨a, b⟩ := h
  rcases Nat.mod_two_eq_zero_or_one U with e | e
  · rw [a e]; exact Nat.mul_le_mul_right_iff h0
  · obtain ⟨b1, b2⟩ := b e
    constructor
    · intro h
      have := Nat.lt_of_mul_lt_mul_right (Nat.lt_of_le_of_lt h b2)
      omega
    · intro h
      have := Nat.mul_le_mul_right D (show k ≤ U - 1 by omega)
      omega
theorem Unr.ge {U N D k : Nat} (h : Unr U N D) (h0 : 0 < D) (hk : k % 2 = 0) : N ≤ k * D ↔ U ≤ k := by
  obtain ⟨a, b⟩ := h
  rcases Nat.mod_two_eq_zero_or_one U with e | e
  · rw [a e]; exact Nat.mul_le_mul_right_iff h0
  · obtain ⟨b1, b2⟩ := b e
    constructor
    · intro h
      have := Nat.lt_of_mul_lt_mul_right (Nat.lt_of_lt_of_le b1 h)
      omega
    · intro h
      have := Nat.mul_le_mul_right D (show U + 1 ≤ k by omega)
      omega
theorem Unr.lt {U N D k : Nat} (h : Unr U N D) (h0 : 0 < D) (hk : k % 2 = 0) : k * D < N ↔ k < U := by
  have := h.ge h0 hk
  omega
theorem Unr.gt {U N D k : Nat} (h : Unr U N D) (h0 : 0 < D) (hk : k % 2 = 0) : N < k * D ↔ U < k := by
  have := h.le h0 hk
  omega
/-- two sides times one thing each -/
theorem le_turn {L R L' R' X Z : Nat} (hX : 0 < X) (hZ : 0 < Z) (h1 : L * X = L' * Z) (h2 : R * X = R' * Z) : (L ≤ R ↔ L' ≤ R') ∧ (L < R ↔ L' < R') := by
  have a1 : L * X ≤ R * X ↔ L ≤ R := Nat.mul_le_mul_right_iff hX
  have a2 : L' * Z ≤ R' * Z ↔ L' ≤ R' := Nat.mul_le_mul_right_iff hZ
  have a3 : L * X < R * X ↔ L < R := Nat.mul_lt_mul_right hX
  have a4 : L' * Z < R' * Z ↔ L' < R' := Nat.mul_lt_mul_right hZ
  rw [h1, h2] at a1 a3
  exact ⟨a1.symm.trans a2, a3.symm.trans a4⟩
/-- the scale's unit, at a row and a shift -/
def dT (i S : Nat) : Nat := 2 ^ S * 340282366920938463463374607431768211456 * kT i
theorem dT_pos (i S : Nat) (hi : i < 696) : 0 < dT i S := by
  have := pm_near i hi
  have hk : 0 < kT i := by omega
  exact Nat.mul_pos (Nat.mul_pos (Nat.two_pow_pos _) (by decide)) hk
theorem dT_eq (i S : Nat) (p E : Int) (hp : p = (i : Int) - 348) (hS : (S : Int) = -(E + lg2 p + 3)) (hl : -1800 ≤ lg2 p) : dT i S * 4 = pw2 (-E) * pw10 0 := by
  unfold dT
  rw [kT_eq i p hp, show (340282366920938463463374607431768211456 : Nat) = 2 ^ 128 by decide]
  rw [show 2 ^ S * 2 ^ 128 * (pw2 (lg2 p - 127) * pw10 0) * 4 = (pw2 (lg2 p - 127) * (2 ^ S * 2 ^ 128 * 2 ^ 2)) * pw10 0 by grind]
  rw [← Nat.pow_add, ← Nat.pow_add, ← pw2_step (lg2 p - 127) (-E) (S + 128 + 2) (by omega) (by omega)]
/-- a scaled number against c, and the number against c over ten's power -/
theorem turn (i S : Nat) (x c : Nat) (p E : Int) (hp : p = (i : Int) - 348) (hi : i < 696) (hS : (S : Int) = -(E + lg2 p + 3)) (hE : E ≤ 1500) (hE2 : -1500 ≤ E) (hl : -1800 ≤ lg2 p) :
    (x * gT i ≤ 4 * c * dT i S ↔ x * pw2 E * pw10 0 ≤ c * pw2 0 * pw10 (-p)) ∧ (x * gT i < 4 * c * dT i S ↔ x * pw2 E * pw10 0 < c * pw2 0 * pw10 (-p)) ∧
    (4 * c * dT i S ≤ x * gT i ↔ c * pw2 0 * pw10 (-p) ≤ x * pw2 E * pw10 0) ∧ (4 * c * dT i S < x * gT i ↔ c * pw2 0 * pw10 (-p) < x * pw2 E * pw10 0) := by
  have e1 : 4 * c * dT i S = c * (dT i S * 4) := by grind
  rw [e1, dT_eq i S p E hp hS hl, gT_eq i p hp]
  have q1 := pw2_add (-E) E 0 0 (by omega) (by omega) (by omega) (by omega) (by omega)
  have q2 := pw10_add (-p) p 0 0 (by omega) (by omega) (by omega) (by omega) (by omega)
  have X := Nat.mul_pos (pw2_pos E) (pw10_pos (-p))
  have Z := Nat.mul_pos (pw2_pos 0) (pw10_pos 0)
  have h1 : x * (pw2 0 * pw10 p) * (pw2 E * pw10 (-p)) = x * pw2 E * pw10 0 * (pw2 0 * pw10 0) := by
    rw [show x * (pw2 0 * pw10 p) * (pw2 E * pw10 (-p)) = x * pw2 0 * pw2 E * (pw10 (-p) * pw10 p) by grind, q2]; grind
  have h2 : c * (pw2 (-E) * pw10 0) * (pw2 E * pw10 (-p)) = c * pw2 0 * pw10 (-p) * (pw2 0 * pw10 0) := by
    rw [show c * (pw2 (-E) * pw10 0) * (pw2 E * pw10 (-p)) = c * pw10 0 * pw10 (-p) * (pw2 (-E) * pw2 E) by grind, q1]; grind
  have t1 := le_turn X Z h1 h2
  have t2 := le_turn X Z h2 h1
  exact ⟨t1.1, t1.2, t2.1, t2.2⟩
end Go.Proofs.YtnccpddjdgndcaaGreatDoor.Nt
end

section
/- THE SHORTEST DECIMAL LIES WHERE THE NUMBER IS THE NEAREST ONE (second part). No walk. -/
namespace Go.Proofs.YtnccpddjdgndcaaGreatDoor.Nt
open Go.Proofs.YtnccpddjdgndcaaGreatDoor.Fmt
/-- a number's digits in twos; the place of the last one; four times its lower bound -/
def bM (b : Nat) : Nat := if bexp b = 0 then bman b else 4503599627370496 + bman b
def bE (b : Nat) : Int := if bexp b = 0 then -1074 else (bexp b : Int) - 1075
def lowQ (b : Nat) : Nat := if bman b = 0 ∧ 2 ≤ bexp b then 4 * bM b - 1 else 4 * bM b - 2
/-- the number that is nearest to T (scaled) is b -/
def InR (b T : Nat) : Prop := lowQ b * pw2 (bE b - 2) * pw10 0 ≤ T ∧ T ≤ (4 * bM b + 2) * pw2 (bE b - 2) * pw10 0 ∧
  (bM b % 2 = 1 → lowQ b * pw2 (bE b - 2) * pw10 0 < T ∧ T < (4 * bM b + 2) * pw2 (bE b - 2) * pw10 0)
theorem in_turn (b i S x1 x2 c u1 u2 odd : Nat) (p E : Int) (hp : p = (i : Int) - 348) (hi : i < 696) (hS : (S : Int) = -(E + lg2 p + 3)) (hE : E ≤ 1500) (hE2 : -1500 ≤ E) (hl : -1800 ≤ lg2 p)
    (h1 : Unr u1 (x1 * gT i) (dT i S)) (h2 : Unr u2 (x2 * gT i) (dT i S)) (ho : odd = bM b % 2) (hc1 : u1 + odd ≤ 4 * c) (hc2 : 4 * c + odd ≤ u2)
    (e1 : lowQ b * pw2 (bE b - 2) = x1 * pw2 E) (e2 : (4 * bM b + 2) * pw2 (bE b - 2) = x2 * pw2 E) : InR b (c * pw2 0 * pw10 (-p)) := by
  have hD := dT_pos i S hi
  obtain ⟨a1, a2, _, _⟩ := turn i S x1 c p E hp hi hS hE hE2 hl
  obtain ⟨_, _, a3, a4⟩ := turn i S x2 c p E hp hi hS hE hE2 hl
  have g1 := h1.ge (k := 4 * c) hD (by omega)
  have g2 := h1.gt (k := 4 * c) hD (by omega)
  have g3 := h2.le (k := 4 * c) hD (by omega)
  have g4 := h2.lt (k := 4 * c) hD (by omega)
  unfold InR
  rw [e1, e2]
  exact ⟨a1.1 (g1.2 (by omega)), a3.1 (g3.2 (by omega)), fun h => ⟨a2.1 (g2.2 (by omega)), a4.1 (g4.2 (by omega))⟩⟩
theorem plain_in (b : Nat) (h : Plain (fm b) (fE b)) (hz : fm b = bM b * 2 ^ sfZ (fE b)) (hE : bE b = fE b + sfZ (fE b)) (hz1 : 11 ≤ sfZ (fE b)) (hS5 : 5 ≤ sN (fE b)) (hlow : lowQ b = 4 * bM b - 2) (hE1 : fE b ≤ 1500) (hE2 : -1500 ≤ fE b)
    (hpp : -348 ≤ pN (fE b)) (hM : 1 ≤ bM b) : InR b (fkey b * pw2 0) := by
  obtain ⟨c, hv, c1, c2⟩ := h.key
  obtain ⟨f1, f2, f3, f4, f5, f6⟩ := h.facts
  obtain ⟨t1, t2⟩ := hiT_big _ f1
  have hmin : sfMin (fm b) (fE b) = fm b - 2 ^ (sfZ (fE b) - 1) := by unfold sfMin; rw [if_neg h.ns]
  have hmax : sfMax (fm b) (fE b) = fm b + 2 ^ (sfZ (fE b) - 1) := rfl
  have hlo : sfLo (fm b) (fE b) = cl (nudge (sfU (fm b) (fE b) (fm b - 2 ^ (sfZ (fE b) - 1))) (sfOdd (fm b) (fE b))) := by unfold sfLo; rw [hmin]
  have hhi : sfHi (fm b) (fE b) = flr (nudge (sfU (fm b) (fE b) (fm b + 2 ^ (sfZ (fE b) - 1))) (-(sfOdd (fm b) (fE b) : Int))) := by unfold sfHi; rw [hmax]
  have ho : sfOdd (fm b) (fE b) = bM b % 2 := by
    unfold sfOdd; rw [hz, Nat.mul_div_cancel _ (Nat.two_pow_pos _)]
  have ho2 : sfOdd (fm b) (fE b) < 2 := by omega
  have hl := h.low
  have hx := h.high
  obtain ⟨y, hy⟩ : ∃ y, sfZ (fE b) = y + 11 := ⟨sfZ (fE b) - 11, by omega⟩
  have hT : 2 ^ (sfZ (fE b) - 1) = 128 * (8 * 2 ^ y) := by rw [hy, show y + 11 - 1 = y + 10 by omega, Nat.pow_add]; omega
  have hT2 : 2 ^ sfZ (fE b) = 128 * (16 * 2 ^ y) := by rw [hy, Nat.pow_add]; omega
  have hTl : 2 ^ (sfZ (fE b) - 1) ≤ 2 ^ 62 := Nat.pow_le_pow_right (by decide) (by omega)
  rw [show (2 : Nat) ^ 62 = 4611686018427387904 by decide] at hTl
  have m1 : fm b - 2 ^ (sfZ (fE b) - 1) = 128 * (bM b * (16 * 2 ^ y) - 8 * 2 ^ y) := by
    rw [hz, hT, hT2, Nat.mul_sub]
    congr 1
    grind
  have m2 : fm b + 2 ^ (sfZ (fE b) - 1) = 128 * (bM b * (16 * 2 ^ y) + 8 * 2 ^ y) := by rw [hz, hT, hT2]; grind
  have U1 := usc_unr (iN (fE b)) f1 _ _ (sN (fE b)) m1 (by omega) (by omega) hS5
  have U2 := usc_unr (iN (fE b)) f1 _ _ (sN (fE b)) m2 (by omega) (by omega) hS5
  have g1 := usc_lt63 (fm b - 2 ^ (sfZ (fE b) - 1)) _ (loT (iN (fE b))) (sN (fE b)) (by omega) t2 f2
  have g3 := usc_lt63 (fm b + 2 ^ (sfZ (fE b) - 1)) _ (loT (iN (fE b))) (sN (fE b)) (by omega) t2 f2
  have k3 := usc_ge (fm b + 2 ^ (sfZ (fE b) - 1)) _ (loT (iN (fE b))) (sN (fE b)) (by omega) (by omega) t1 t2 f3
  rw [h.u, nudge_up _ _ g1 ho2] at hlo
  rw [h.u, nudge_dn _ _ g3 ho2 k3] at hhi
  have hp : pN (fE b) = (iN (fE b) : Int) - 348 := by unfold iN; omega
  have hSS : (sN (fE b) : Int) = -(fE b + lg2 (pN (fE b)) + 3) := by
    have : sN (fE b) = (-(fE b + lg2 (pN (fE b)) + 3)).toNat := rfl
    omega
  have hlg : -1800 ≤ lg2 (pN (fE b)) := by unfold lg2; omega
  have key := in_turn b (iN (fE b)) (sN (fE b)) _ _ c _ _ (sfOdd (fm b) (fE b)) (pN (fE b)) (fE b) hp f1 hSS hE1 hE2 hlg U1 U2 ho (by omega) (by omega) ?_ ?_
  · have e : fkey b = c * pw10 (-pN (fE b)) := by
      unfold fkey
      rw [hv]
      unfold pw10
      rw [show (-pN (fE b) + 400).toNat = (400 - pN (fE b)).toNat by omega]
    rw [e, show c * pw10 (-pN (fE b)) * pw2 0 = c * pw2 0 * pw10 (-pN (fE b)) by grind]
    exact key
  · rw [hlow, hz, pw2_step (fE b) (bE b - 2) (y + 9) (by omega) (by omega), show sfZ (fE b) - 1 = y + 10 by omega, hy, show y + 11 = (y + 9) + 2 by omega, show y + 10 = (y + 9) + 1 by omega, Nat.pow_add 2 (y + 9) 2, Nat.pow_add 2 (y + 9) 1]
    generalize 2 ^ (y + 9) = t
    obtain ⟨M, hM'⟩ : ∃ M, bM b = M + 1 := ⟨bM b - 1, by omega⟩
    rw [hM']
    have : (M + 1) * (t * 2 ^ 2) - t * 2 ^ 1 = (4 * (M + 1) - 2) * t := by
      rw [show 4 * (M + 1) - 2 = 4 * M + 2 by omega, show (M + 1) * (t * 2 ^ 2) = (4 * M + 2) * t + t * 2 ^ 1 by grind]
      omega
    rw [this]
    grind
  · rw [hz, pw2_step (fE b) (bE b - 2) (y + 9) (by omega) (by omega), show sfZ (fE b) - 1 = y + 10 by omega, hy, show y + 11 = (y + 9) + 2 by omega, show y + 10 = (y + 9) + 1 by omega, Nat.pow_add 2 (y + 9) 2, Nat.pow_add 2 (y + 9) 1]
    generalize 2 ^ (y + 9) = t
    grind
/-- at a binade's foot: what is taken -/
def ftC (E : Int) : Nat :=
  if sfLo 9223372036854775808 E ≤ sfHi 9223372036854775808 E / 10 * 10 then sfHi 9223372036854775808 E / 10 * 10
  else if sfLo 9223372036854775808 E < sfHi 9223372036854775808 E then rnd (sfU 9223372036854775808 E 9223372036854775808) else sfLo 9223372036854775808 E
set_option maxRecDepth 100000 in
theorem foot_key : ∀ e : Nat, e < 2045 → (sfLo 9223372036854775808 ((e : Int) - 1084) ≤ ftC ((e : Int) - 1084) ∧ ftC ((e : Int) - 1084) ≤ sfHi 9223372036854775808 ((e : Int) - 1084) ∧
    sfI 9223372036854775808 ((e : Int) - 1084) < 696 ∧ 5 ≤ sfS 9223372036854775808 ((e : Int) - 1084) ∧ sfS 9223372036854775808 ((e : Int) - 1084) ≤ 58 ∧ -348 ≤ sfP 9223372036854775808 ((e : Int) - 1084) ∧
    vN (short 9223372036854775808 ((e : Int) - 1084)) = ftC ((e : Int) - 1084) * 10 ^ (400 - sfP 9223372036854775808 ((e : Int) - 1084)).toNat) := by decide +kernel
theorem foot_in (b : Nat) (h1 : bman b = 0) (h2 : 2 ≤ bexp b) (h3 : bexp b ≤ 2046) : InR b (fkey b * pw2 0) := by
  obtain ⟨c1, c2, f1, f2, f3, f4, hv⟩ := foot_key (bexp b - 2) (by omega)
  have hm : fm b = 9223372036854775808 := by unfold fm; rw [if_neg (by omega), h1]
  have hE : fE b = (bexp b : Int) - 1086 := by unfold fE; rw [if_neg (by omega)]
  have hEe : ((bexp b - 2 : Nat) : Int) - 1084 = fE b := by omega
  rw [hEe] at c1 c2 f1 f2 f3 f4 hv
  have hM : bM b = 4503599627370496 := by unfold bM; rw [if_neg (by omega), h1]
  have hbE : bE b = fE b + 11 := by unfold bE; rw [if_neg (by omega), hE]; omega
  have hlow : lowQ b = 18014398509481983 := by unfold lowQ; rw [if_pos ⟨h1, h2⟩, hM]
  obtain ⟨E, hEq⟩ : ∃ E, E = fE b := ⟨_, rfl⟩
  rw [← hEq] at c1 c2 f1 f2 f3 f4 hv hE hbE
  have hcond : (9223372036854775808 : Nat) = 9223372036854775808 ∧ -1085 < E := ⟨rfl, by omega⟩
  have hmin : sfMin 9223372036854775808 E = 9223372036854775296 := by unfold sfMin; rw [if_pos hcond]
  have hz : sfZ E = 11 := by unfold sfZ; rw [if_pos (by omega)]
  have hmax : sfMax 9223372036854775808 E = 9223372036854776832 := by unfold sfMax; rw [hz]
  have ho : sfOdd 9223372036854775808 E = 0 := by unfold sfOdd; rw [hz]
  obtain ⟨t1, t2⟩ := hiT_big _ f1
  have hlo : sfLo 9223372036854775808 E = cl (nudge (sfU 9223372036854775808 E 9223372036854775296) ((0 : Nat) : Int)) := by unfold sfLo; rw [hmin, ho]
  have hhi : sfHi 9223372036854775808 E = flr (nudge (sfU 9223372036854775808 E 9223372036854776832) (-((0 : Nat) : Int))) := by unfold sfHi; rw [hmax, ho]
  unfold sfU at hlo hhi
  have U1 := usc_unr (sfI 9223372036854775808 E) f1 9223372036854775296 72057594037927932 (sfS 9223372036854775808 E) (by decide) (by decide) (by decide) f2
  have U2 := usc_unr (sfI 9223372036854775808 E) f1 9223372036854776832 72057594037927944 (sfS 9223372036854775808 E) (by decide) (by decide) (by decide) f2
  have g1 := usc_lt63 9223372036854775296 _ (loT (sfI 9223372036854775808 E)) (sfS 9223372036854775808 E) (by decide) t2 (by omega)
  have g3 := usc_lt63 9223372036854776832 _ (loT (sfI 9223372036854775808 E)) (sfS 9223372036854775808 E) (by decide) t2 (by omega)
  have k3 := usc_ge 9223372036854776832 _ (loT (sfI 9223372036854775808 E)) (sfS 9223372036854775808 E) (by decide) (by decide) t1 t2 f3
  rw [nudge_up _ 0 g1 (by decide)] at hlo
  rw [nudge_dn _ 0 g3 (by decide) k3] at hhi
  have hp : sfP 9223372036854775808 E = (sfI 9223372036854775808 E : Int) - 348 := by unfold sfI; omega
  have hSS : (sfS 9223372036854775808 E : Int) = -(E + lg2 (sfP 9223372036854775808 E) + 3) := by
    have : sfS 9223372036854775808 E = (-(E + lg2 (sfP 9223372036854775808 E) + 3)).toNat := rfl
    omega
  have hlg : -1800 ≤ lg2 (sfP 9223372036854775808 E) := by unfold lg2; omega
  have key := in_turn b (sfI 9223372036854775808 E) (sfS 9223372036854775808 E) _ _ (ftC E) _ _ 0 (sfP 9223372036854775808 E) E hp f1 hSS (by omega) (by omega) hlg U1 U2 (by rw [hM]) (by omega) (by omega) ?_ ?_
  · have e : fkey b = ftC E * pw10 (-sfP 9223372036854775808 E) := by
      unfold fkey
      rw [hm, ← hEq, hv]
      unfold pw10
      rw [show (-sfP 9223372036854775808 E + 400).toNat = (400 - sfP 9223372036854775808 E).toNat by omega]
    rw [e, show ftC E * pw10 (-sfP 9223372036854775808 E) * pw2 0 = ftC E * pw2 0 * pw10 (-sfP 9223372036854775808 E) by grind]
    exact key
  · rw [hlow, hbE, pw2_step E (E + 11 - 2) 9 (by omega) (by omega)]
    generalize pw2 E = t
    omega
  · rw [hM, hbE, pw2_step E (E + 11 - 2) 9 (by omega) (by omega)]
    generalize pw2 E = t
    omega
/-- THE SHORTEST DECIMAL of a number above nought is nearest to that number -/
theorem short_in (b : Nat) (h1 : 1 ≤ b) (h2 : b < 9218868437227405312) : InR b (fkey b * pw2 0) := by
  have e0 : bexp b = b / 4503599627370496 := by unfold bexp; omega
  have f0 : bman b = b % 4503599627370496 := rfl
  by_cases hx : bexp b = 0
  · have hb : bman b = b := by omega
    obtain ⟨z, _, z1, z2, _, hm, hE, hz, _, _⟩ := sub_facts b hx (by omega)
    have hM : bM b = bman b := by unfold bM; rw [if_pos hx]
    have hbE : bE b = -1074 := by unfold bE; rw [if_pos hx]
    have hp : pN (fE b) = 324 := by unfold pN; rw [if_neg (by omega)]; decide
    have hlg : lg2 324 = 1076 := by decide
    refine plain_in b (plain_sub b hx (by omega)) (by rw [hz, hM, hm]) (by rw [hz, hbE, hE]; omega) (by omega) ?_ ?_ (by omega) (by omega) (by rw [hp]; decide) (by omega)
    · unfold sN
      rw [hp, hlg]
      omega
    · unfold lowQ
      rw [if_neg (by omega)]
  · have hM : bM b = 4503599627370496 + bman b := by unfold bM; rw [if_neg hx]
    have hbE : bE b = (bexp b : Int) - 1075 := by unfold bE; rw [if_neg hx]
    have hE : fE b = (bexp b : Int) - 1086 := by unfold fE; rw [if_neg hx]
    have hm : fm b = (4503599627370496 + bman b) * 2048 := by unfold fm; rw [if_neg hx]
    have hz : sfZ (fE b) = 11 := by unfold sfZ; rw [hE, if_pos (by omega)]
    by_cases hf : bman b = 0 ∧ 2 ≤ bexp b
    · exact foot_in b hf.1 hf.2 (by omega)
    · have hp : pN (fE b) = -lg10 (fE b + 11) := by unfold pN; rw [if_pos (by omega)]
      refine plain_in b (plain_norm b (by omega) (by omega) (by omega)) (by rw [hz, hM, hm]) (by rw [hz, hbE, hE]; omega) (by omega) ?_ ?_ (by omega) (by omega) (by rw [hp]; unfold lg10; omega) (by omega)
      · unfold sN
        rw [hp]
        unfold lg2 lg10
        omega
      · unfold lowQ
        rw [if_neg hf]
end Go.Proofs.YtnccpddjdgndcaaGreatDoor.Nt
end

section
/- DIGITS AND A POWER OF TEN ARE ROUNDED TO THE NEAREST NUMBER. No walk. -/
namespace Go.Proofs.YtnccpddjdgndcaaGreatDoor.Nt
open Go.Proofs.YtnccpddjdgndcaaGreatDoor.Fmt
theorem gT_bounds : ∀ i, i < 696 → 170141183460469231731687303715884105728 * kT i ≤ gT i ∧ gT i ≤ 340282366920938425684442744474606501888 * kT i := by decide +kernel
/-- what parseFloat64 reckons -/
def pfE (d : Nat) (p : Int) : Int := min 1074 (53 - (Lib.bitLen d : Int) - lg2 p)
def pfS (d : Nat) (p : Int) : Int := -(pfE d p - (64 - (Lib.bitLen d : Int)) + lg2 p + 3)
def pfI (p : Int) : Nat := (p + 348).toNat
def pfU (d : Nat) (p : Int) : Nat := usc (d * 2 ^ (64 - Lib.bitLen d)) (hiT (pfI p)) (loT (pfI p)) (pfS d p).toNat
theorem pw2_mono {a b : Int} (h : a ≤ b) : pw2 a ≤ pw2 b := Nat.pow_le_pow_right (by decide) (by omega)
theorem pw2_lt {a b : Int} (_hb : -2000 ≤ a) (h : pw2 a < pw2 b) : a < b := by
  rcases Int.lt_or_le a b with g | g
  · exact g
  · have := pw2_mono g; omega
/-- thresholds for the value itself -/
theorem pf_turn (d len k S : Nat) (p e : Int) (hp0 : -348 ≤ p) (hlen : len ≤ 64) (hS : (S : Int) = -(e - (64 - (len : Int)) + lg2 p + 3)) (he : -1500 ≤ -e) (hl : -1800 ≤ lg2 p) :
    k * dT (pfI p) S = (k * pw2 (-e - 2) * pw10 0) * 2 ^ (64 - len) ∧ (d * 2 ^ (64 - len)) * gT (pfI p) = (d * pw2 0 * pw10 p) * 2 ^ (64 - len) := by
  have hp : p = (pfI p : Int) - 348 := by unfold pfI; omega
  constructor
  · have h := dT_eq (pfI p) S p (e - (64 - (len : Int))) hp hS hl
    rw [pw2_step (-e - 2) (-(e - (64 - (len : Int)))) (64 - len + 2) (by omega) (by omega), Nat.pow_add] at h
    have h4 : dT (pfI p) S = pw2 (-e - 2) * 2 ^ (64 - len) * pw10 0 := by
      have : pw2 (-e - 2) * (2 ^ (64 - len) * 2 ^ 2) * pw10 0 = pw2 (-e - 2) * 2 ^ (64 - len) * pw10 0 * 4 := by grind
      omega
    rw [h4]
    grind
  · rw [gT_eq (pfI p) p hp]; grind
theorem len_bounds (d : Nat) (h : d < 18446744073709551616) (h0 : 1 ≤ d) : 1 ≤ Lib.bitLen d ∧ 2 ^ (Lib.bitLen d - 1) ≤ d ∧ d < 2 ^ Lib.bitLen d := bitLenAux_bounds 64 d (by omega) (by omega)
theorem bM_facts (b : Nat) (h1 : 1 ≤ b) (h2 : b < 9218868437227405312) : 1 ≤ bM b ∧ bM b ≤ 9007199254740991 ∧ -1074 ≤ bE b ∧ bE b ≤ 971 ∧ 4 * bM b - 2 ≤ lowQ b ∧
    (-1074 < bE b → 4503599627370496 ≤ bM b) ∧ (-1074 < bE b → bM b = 4503599627370496 → lowQ b = 18014398509481983) := by
  have e0 : bexp b = b / 4503599627370496 := by unfold bexp; omega
  have f0 : bman b = b % 4503599627370496 := rfl
  unfold lowQ bM bE
  by_cases hx : bexp b = 0
  · simp only [if_pos hx]
    rw [if_neg (by omega)]
    omega
  · simp only [if_neg hx]
    split <;> omega
theorem pf_M (b d : Nat) (p : Int) (h1 : 1 ≤ b) (h2 : b < 9218868437227405312) (hd0 : 1 ≤ d) (hd : d < 144115188075855872) (hp0 : -348 ≤ p) (hp1 : p ≤ 347) (hr : InR b (d * pw2 0 * pw10 p)) :
    8 ≤ pfS d p ∧ pfS d p ≤ 63 ∧ pfU d p < 9223372036854775808 ∧
    ((pfE d p = -bE b ∧ pfU d p < 36028797018963966 ∧ rnd (pfU d p) = bM b) ∨ (pfE d p = -bE b + 1 ∧ 36028797018963966 ≤ pfU d p ∧ rnd (pfU d p / 2 ||| pfU d p % 2) = bM b)) := by
  obtain ⟨l1, l2, l3⟩ := len_bounds d (by omega) hd0
  have l4 : Lib.bitLen d ≤ 57 := Lib.bitLen_le d 57 (by decide) hd
  have hS' : pfS d p = -(pfE d p - (64 - (Lib.bitLen d : Int)) + lg2 p + 3) := rfl
  have hE' : pfE d p = min 1074 (53 - (Lib.bitLen d : Int) - lg2 p) := rfl
  have hlp : -1200 ≤ lg2 p ∧ lg2 p ≤ 1200 := by unfold lg2; omega
  have hi : pfI p < 696 := by unfold pfI; omega
  have hp : p = (pfI p : Int) - 348 := by unfold pfI; omega
  obtain ⟨t1, t2⟩ := hiT_big _ hi
  obtain ⟨q1, q2⟩ := gT_bounds _ hi
  rw [gT_eq (pfI p) p hp, kT_eq (pfI p) p hp] at q1 q2
  obtain ⟨b1, b2, b3, b4, b5, b6, b7⟩ := bM_facts b h1 h2
  obtain ⟨r1, r2, r3⟩ := hr
  -- where the value lies
  have hlo : pw2 (lg2 p + (Lib.bitLen d : Int) - 1) * pw10 0 ≤ d * pw2 0 * pw10 p := by
    have a1 : pw2 (lg2 p + (Lib.bitLen d : Int) - 1) = pw2 (lg2 p - 127) * 2 ^ 127 * 2 ^ (Lib.bitLen d - 1) := by
      rw [Nat.mul_assoc, ← Nat.pow_add]
      exact pw2_step _ _ _ (by omega) (by omega)
    have a2 := Nat.mul_le_mul l2 q1
    rw [a1]
    have a3 : 2 ^ (Lib.bitLen d - 1) * (170141183460469231731687303715884105728 * (pw2 (lg2 p - 127) * pw10 0)) = pw2 (lg2 p - 127) * 2 ^ 127 * 2 ^ (Lib.bitLen d - 1) * pw10 0 := by
      rw [show (2 : Nat) ^ 127 = 170141183460469231731687303715884105728 by decide]; grind
    have a4 : d * (pw2 0 * pw10 p) = d * pw2 0 * pw10 p := by grind
    omega
  have hup : d * pw2 0 * pw10 p < 9007199254740991 * pw2 (lg2 p + (Lib.bitLen d : Int) - 52) * pw10 0 := by
    have a1 : pw2 (lg2 p + (Lib.bitLen d : Int) - 52) = pw2 (lg2 p - 127) * 2 ^ 75 * 2 ^ Lib.bitLen d := by
      rw [Nat.mul_assoc, ← Nat.pow_add]
      exact pw2_step _ _ _ (by omega) (by omega)
    have a0 : 0 < pw2 0 * pw10 p := Nat.mul_pos (pw2_pos _) (pw10_pos _)
    have a2 := Nat.mul_lt_mul_of_pos_right l3 a0
    have a5 := Nat.mul_le_mul_left (2 ^ Lib.bitLen d) q2
    have a3 : 2 ^ Lib.bitLen d * (340282366920938425684442744474606501888 * (pw2 (lg2 p - 127) * pw10 0)) = 9007199254740991 * (pw2 (lg2 p - 127) * 2 ^ 75 * 2 ^ Lib.bitLen d) * pw10 0 := by
      rw [show (2 : Nat) ^ 75 = 37778931862957161709568 by decide]; grind
    have a4 : d * (pw2 0 * pw10 p) = d * pw2 0 * pw10 p := by grind
    rw [a1]
    omega
  -- the exponent
  have hP := pw10_pos 0
  have k1 : lg2 p + (Lib.bitLen d : Int) ≤ bE b + 53 := by
    have c1 : pw2 (lg2 p + (Lib.bitLen d : Int) - 1) ≤ (4 * bM b + 2) * pw2 (bE b - 2) := Nat.le_of_mul_le_mul_right (Nat.le_trans hlo r2) hP
    have c2 : pw2 (bE b + 53) = pw2 (bE b - 2) * 2 ^ 55 := pw2_step _ _ _ (by omega) (by omega)
    have c3 : (4 * bM b + 2) * pw2 (bE b - 2) < 36028797018963968 * pw2 (bE b - 2) := Nat.mul_lt_mul_of_pos_right (by omega) (pw2_pos _)
    rw [show (2 : Nat) ^ 55 = 36028797018963968 by decide] at c2
    have := pw2_lt (a := lg2 p + (Lib.bitLen d : Int) - 1) (b := bE b + 53) (by omega) (by omega)
    omega
  have k2 : -1074 < bE b → 53 - (Lib.bitLen d : Int) - lg2 p ≤ -bE b + 1 := by
    intro hb
    have hM := b6 hb
    rcases Int.lt_or_le (-bE b + 1) (53 - (Lib.bitLen d : Int) - lg2 p) with g | g
    · exfalso
      have c1 : lowQ b * pw2 (bE b - 2) < 9007199254740991 * pw2 (lg2 p + (Lib.bitLen d : Int) - 52) := Nat.lt_of_mul_lt_mul_right (Nat.lt_of_le_of_lt r1 hup)
      have c2 := Nat.mul_le_mul_left 9007199254740991 (pw2_mono (a := lg2 p + (Lib.bitLen d : Int) - 52) (b := bE b - 1) (by omega))
      have c3 : pw2 (bE b - 1) = pw2 (bE b - 2) * 2 ^ 1 := pw2_step _ _ _ (by omega) (by omega)
      have c4 := Nat.mul_le_mul_right (pw2 (bE b - 2)) (show 18014398509481982 ≤ lowQ b by omega)
      omega
    · exact g
  have k3 : -1075 ≤ lg2 p + (Lib.bitLen d : Int) := by
    have c1 : lowQ b * pw2 (bE b - 2) < 9007199254740991 * pw2 (lg2 p + (Lib.bitLen d : Int) - 52) := Nat.lt_of_mul_lt_mul_right (Nat.lt_of_le_of_lt r1 hup)
    have c2 : pw2 (lg2 p + (Lib.bitLen d : Int) + 1) = pw2 (lg2 p + (Lib.bitLen d : Int) - 52) * 2 ^ 53 := pw2_step _ _ _ (by omega) (by omega)
    have c3 := Nat.mul_le_mul_right (pw2 (bE b - 2)) (show 2 ≤ lowQ b by omega)
    have c4 : pw2 (bE b - 1) = pw2 (bE b - 2) * 2 ^ 1 := pw2_step _ _ _ (by omega) (by omega)
    rw [show (2 : Nat) ^ 53 = 9007199254740992 by decide] at c2
    have := pw2_lt (a := bE b - 1) (b := lg2 p + (Lib.bitLen d : Int) + 1) (by omega) (by omega)
    omega
  have hEe : pfE d p = -bE b ∨ (pfE d p = -bE b + 1 ∧ -1074 < bE b) := by
    rcases Int.lt_or_le (-1074) (bE b) with g | g
    · have := k2 g; omega
    · omega
  have hS0 : 8 ≤ pfS d p ∧ pfS d p ≤ 63 := by omega
  have hSn : ((pfS d p).toNat : Int) = -(pfE d p - (64 - (Lib.bitLen d : Int)) + lg2 p + 3) := by omega
  -- the scaled number
  have hx : d * 2 ^ (64 - Lib.bitLen d) = 128 * (d * 2 ^ (57 - Lib.bitLen d)) := by
    rw [show 64 - Lib.bitLen d = 57 - Lib.bitLen d + 7 by omega, Nat.pow_add]; grind
  have hx0 : 9223372036854775808 ≤ d * 2 ^ (64 - Lib.bitLen d) := by
    have := Nat.mul_le_mul_right (2 ^ (64 - Lib.bitLen d)) l2
    rw [pow_join _ _ 63 (by omega)] at this
    omega
  have hx1 : d * 2 ^ (64 - Lib.bitLen d) < 18446744073709551616 := by
    have := Nat.mul_lt_mul_of_pos_right l3 (Nat.two_pow_pos (64 - Lib.bitLen d))
    rw [pow_join _ _ 64 (by omega)] at this
    omega
  have U := usc_unr (pfI p) hi _ _ (pfS d p).toNat hx (by omega) hx1 (by omega)
  have hUl : pfU d p < 9223372036854775808 := usc_lt63 _ _ _ _ hx1 t2 (by omega)
  have hD := dT_pos (pfI p) (pfS d p).toNat hi
  have hU : pfU d p = usc (d * 2 ^ (64 - Lib.bitLen d)) (hiT (pfI p)) (loT (pfI p)) (pfS d p).toNat := rfl
  rw [← hU] at U
  have tt := fun k => pf_turn d (Lib.bitLen d) k (pfS d p).toNat p (pfE d p) hp0 (by omega) hSn (by omega) (by omega)
  have h2p := Nat.two_pow_pos (64 - Lib.bitLen d)
  have T1 : ∀ k, k % 2 = 0 → (k * pw2 (-pfE d p - 2) * pw10 0 ≤ d * pw2 0 * pw10 p ↔ k ≤ pfU d p) := by
    intro k hk
    have := U.le (k := k) hD hk
    have e : k * (2 ^ (pfS d p).toNat * 340282366920938463463374607431768211456 * kT (pfI p)) = k * dT (pfI p) (pfS d p).toNat := rfl
    rw [e, (tt k).1, (tt k).2, Nat.mul_le_mul_right_iff h2p] at this
    exact this
  have T2 : ∀ k, k % 2 = 0 → (d * pw2 0 * pw10 p ≤ k * pw2 (-pfE d p - 2) * pw10 0 ↔ pfU d p ≤ k) := by
    intro k hk
    have := U.ge (k := k) hD hk
    have e : k * (2 ^ (pfS d p).toNat * 340282366920938463463374607431768211456 * kT (pfI p)) = k * dT (pfI p) (pfS d p).toNat := rfl
    rw [e, (tt k).1, (tt k).2, Nat.mul_le_mul_right_iff h2p] at this
    exact this
  refine ⟨hS0.1, hS0.2, hUl, ?_⟩
  clear tt U hU hup hlo k1 k2 k3 hx hx0 hx1 q1 q2
  generalize d * pw2 0 * pw10 p = T at *
  generalize pfU d p = u at *
  rcases hEe with g | ⟨g, g2⟩
  · left
    have e : -pfE d p - 2 = bE b - 2 := by omega
    rw [e] at T1 T2
    have m1 : (4 * bM b - 2) * pw2 (bE b - 2) * pw10 0 ≤ lowQ b * pw2 (bE b - 2) * pw10 0 := Nat.mul_le_mul_right _ (Nat.mul_le_mul_right _ b5)
    have u1 := (T1 (4 * bM b - 2) (by omega)).1 (by omega)
    have u2 := (T2 (4 * bM b + 2) (by omega)).1 r2
    have u3 := (T2 (4 * bM b - 2) (by omega))
    have u4 := (T1 (4 * bM b + 2) (by omega))
    refine ⟨g, ?_, ?_⟩
    · rcases Nat.mod_two_eq_zero_or_one (bM b) with o | o
      · omega
      · have := r3 o; omega
    · have : rnd u = (u + 1 + u / 4 % 2) / 4 := by unfold rnd; omega
      rw [this]
      rcases Nat.mod_two_eq_zero_or_one (bM b) with o | o
      · omega
      · have := r3 o; omega
  · right
    have e : -pfE d p - 2 = bE b - 3 := by omega
    have e2 : pw2 (bE b - 2) = pw2 (bE b - 3) * 2 ^ 1 := pw2_step _ _ _ (by omega) (by omega)
    have A : ∀ k, k * pw2 (bE b - 2) * pw10 0 = (2 * k) * pw2 (bE b - 3) * pw10 0 := by intro k; rw [e2]; grind
    rw [e] at T1 T2
    rw [A] at r1 r2
    rw [A, A] at r3
    have m1 : (8 * bM b - 4) * pw2 (bE b - 3) * pw10 0 ≤ (2 * lowQ b) * pw2 (bE b - 3) * pw10 0 := Nat.mul_le_mul_right _ (Nat.mul_le_mul_right _ (by omega))
    have u0 := (T1 (2 * lowQ b) (by omega)).1 r1
    have u2 := (T2 (2 * (4 * bM b + 2)) (by omega)).1 r2
    have u3 := (T2 (2 * lowQ b) (by omega))
    have u4 := (T1 (2 * (4 * bM b + 2)) (by omega))
    have hM := b6 g2
    have hM2 := b7 g2
    refine ⟨g, by omega, ?_⟩
    have hor : u / 2 ||| u % 2 = if u % 2 = 1 then 2 * (u / 4) + 1 else u / 2 := by
      rcases Nat.mod_two_eq_zero_or_one u with o | o
      · rw [o, Nat.or_zero]; rfl
      · rw [o, or1, Nat.div_div_eq_div_mul]; rfl
    rw [hor]
    have hrn : ∀ v, v < 9223372036854775808 → rnd v = (v + 1 + v / 4 % 2) / 4 := by intro v hv; unfold rnd; omega
    rcases Nat.mod_two_eq_zero_or_one (bM b) with o | o
    · split
      · rw [hrn _ (by omega)]; omega
      · rw [hrn _ (by omega)]; omega
    · have := r3 o
      split
      · rw [hrn _ (by omega)]; omega
      · rw [hrn _ (by omega)]; omega
end Go.Proofs.YtnccpddjdgndcaaGreatDoor.Nt
end

section
/- THE WALK OF strconv.parseFloat64 (second part). -/
namespace Go.Proofs.YtnccpddjdgndcaaGreatDoor.Pf
open Go.RowKit Go.Proofs.YtnccpddjdgndcaaGreatDoor.Fmt Go.Proofs.YtnccpddjdgndcaaGreatDoor.Val Go.Proofs.YtnccpddjdgndcaaGreatDoor.Nt
/-- what parseFloat64 answers -/
def pfV (d : Nat) (p sg : Int) : Int × Bool :=
  if 64 ≤ pfS d p then (sg, false)
  else if 36028797018963966 ≤ pfU d p then packB (bits .or .u64 sg ((rnd (pfU d p / 2 ||| pfU d p % 2) : Nat) : Int)) (-(pfE d p - 1))
  else packB (bits .or .u64 sg ((rnd (pfU d p) : Nat) : Int)) (-pfE d p)
theorem and1u (n : Nat) (h : n < 18446744073709551616) : bits .and .u64 (n : Int) 1 = ((n % 2 : Nat) : Int) := by
  have := and_u n 1 h (by decide)
  rw [show ((1 : Int)) = ((1 : Nat) : Int) from rfl, this, Nat.and_one_is_mod]
set_option maxRecDepth 20000 in
set_option maxHeartbeats 2000000 in
theorem pf64_any (d : Nat) (p sg : Int) (hd0 : 1 ≤ d) (hd : d < 18446744073709551616) (hp0 : -348 ≤ p) (hp1 : p ≤ 347) (hsg : bits .or .u64 sg 0 = sg) (w : World) (hpw : Pow w) :
    Calls Tryz.prog 159 #[.int .u64 d, .int .i64 p, .int .u64 sg] w fun e' w' => e' = .returned (.tuple #[.float .f64 (pfV d p sg).1.toNat, errV (pfV d p sg).2]) ∧ Below w.heap.size w w' := by
  have hv : pfV d p sg = pfV d p sg := rfl
  conv at hv => rhs; unfold pfV
  generalize pfV d p sg = V at *
  obtain ⟨l1, l2, l3⟩ := len_bounds d hd hd0
  have hS' : pfS d p = -(pfE d p - (64 - (Lib.bitLen d : Int)) + lg2 p + 3) := rfl
  have hE' : pfE d p = min 1074 (53 - (Lib.bitLen d : Int) - lg2 p) := rfl
  have hU' : pfU d p = usc (d * 2 ^ (64 - Lib.bitLen d)) (hiT (pfI p)) (loT (pfI p)) (pfS d p).toNat := rfl
  have l4 : Lib.bitLen d ≤ 64 := Lib.bitLen_le d 64 (by decide) hd
  obtain ⟨b, hb⟩ : ∃ b : Nat, Lib.bitLen d = b := ⟨_, rfl⟩
  rw [hb] at l1 l2 l3 l4 hS' hE' hU'
  have hle : (Lib.bitLen ((d : Int)).toNat : Int) = (b : Int) := by rw [Int.toNat_natCast, hb]
  have hlen := fun W => Tryz.bits_Len64 (d : Int) W (by omega) (by omega)
  rw [hle] at hlen
  have hi : p + 348 = pfI p := by unfold pfI; omega
  generalize pfI p = i at *
  have hi2 : i < 696 := by omega
  have hlp : -2000 ≤ lg2 p ∧ lg2 p ≤ 2000 := by unfold lg2; omega
  have hlg := fun W => lg2_any p (by omega) (by omega) W
  have hpre := fun (E : Int) (h0 : -100000 ≤ E) (h1 : E ≤ 100000) => prescale_any E p (lg2 p) i hi hi2 h0 h1 (by omega) (by omega) w hpw
  generalize lg2 p = lp at *
  have j1 : (0 : Int) ≤ 64 - (b : Int) := by omega
  obtain ⟨X, hX⟩ : ∃ X : Nat, d * 2 ^ (64 - b) = X := ⟨_, rfl⟩
  have hXl : X < 18446744073709551616 := by
    have := Nat.mul_lt_mul_of_pos_right l3 (Nat.two_pow_pos (64 - b))
    rw [pow_join _ _ 64 (by omega)] at this
    omega
  have hXw : IntKind.u64.wrap ((d : Int) * 2 ^ (64 - b)) = (X : Int) := by
    rw [IntKind.wrap_u64, ← hX]
    have e : ((d * 2 ^ (64 - b) : Nat) : Int) = (d : Int) * 2 ^ (64 - b) := by push_cast; rfl
    rw [← e, hX]
    omega
  rw [hX] at hU'
  generalize pfE d p = E at *
  generalize pfS d p = S at *
  generalize pfU d p = U at *
  have HLEN := Lib.hid hlen; have HLG := Lib.hid hlg; have HPRE := Lib.hid hpre; have HV := Lib.hid hv; have HU' := Lib.hid hU'; have HE' := Lib.hid hE'
  have hE0 : -3000 ≤ E := by omega
  have hE1 : E ≤ 1074 := by omega
  have hS0 : 8 ≤ S := by omega
  have HS' := Lib.hid hS'
  clear hlen hlg hpre hpw hv hU' hX l1 l2 l3 hb hi hle hE' hS'
  go_enter Tryz.func159, Tryz.ntmps159
  go_upto_region 5 with (first | (go_at_call 118; (refine (HLEN.out _).mono ?_); rintro e w1 ⟨rfl, rfl⟩) | (go_at_call 167; (refine (HLG.out _).mono ?_); rintro e w1 ⟨rfl, rfl⟩) | fail)
  rw [← HE'.out]
  go_upto_region 6 with (first | (go_at_call 166; (refine (HPRE.out (E - (64 - (b : Int))) (by omega) (by omega)).mono ?_); rintro e w2 ⟨rfl, rfl⟩) | fail)
  rw [← HS'.out]
  have hc : ∀ o n, ((w1.alloc (.cells #[.int .u64 (hiT i : Nat), .int .u64 (loT i : Nat), .int .i64 S] 199)).drewN n).cell? ⟨w1.heap.size, o, none⟩ = #[.int .u64 (hiT i : Nat), .int .u64 (loT i : Nat), .int .i64 S][o]? := fun o n => World.cell?_alloc_at (w := w1) _ _ _ _ rfl
  have hbl : ∀ n, Below w1.heap.size w1 ((w1.alloc (.cells #[.int .u64 (hiT i : Nat), .int .u64 (loT i : Nat), .int .i64 S] 199)).drewN n) := fun n => Val.bdrewN (Val.balloc w1 (.cells #[.int .u64 (hiT i : Nat), .int .u64 (loT i : Nat), .int .i64 S] 199)) n
  have HBL := Lib.hid hbl
  have c2 := hc 2 0
  clear hbl HPRE HLEN HLG
  have HSG := Lib.hid hsg
  clear hsg
  by_cases hs : 64 ≤ S
  · have hv := HV.out
    rw [if_pos hs] at hv
    subst hv
    go_wp2_with (first | (simp only [sfrom_call, HSG.out]) | fail)
    try rw [HSG.out]
    go_returns
    exact ⟨rfl, HBL.out 0⟩
  · obtain ⟨S, rfl⟩ : ∃ q : Nat, S = q := ⟨S.toNat, by omega⟩
    have hS63 : S ≤ 63 := by omega
    have hv := HV.out
    rw [if_neg hs] at hv
    have HV2 := Lib.hid hv
    have hu2 := HU'.out
    rw [Int.toNat_natCast] at hu2
    have HU2 := Lib.hid hu2
    clear hv hu2 hs HV HU'
    have hUl : U < 18446744073709551616 := by rw [HU2.out]; exact usc_lt _ _ _ _ hXl (hiT_big _ hi2).2
    obtain ⟨hh, hhb⟩ := hiT_big _ hi2
    have hlo := lo_lt i hi2
    have c0 : ((w1.alloc (.cells #[.int .u64 (hiT i : Nat), .int .u64 (loT i : Nat), .int .i64 (S : Int)] 199))).cell? ⟨w1.heap.size, 0, none⟩ = some (.int .u64 (hiT i : Nat)) := hc 0 0
    have c1 : ((w1.alloc (.cells #[.int .u64 (hiT i : Nat), .int .u64 (loT i : Nat), .int .i64 (S : Int)] 199))).cell? ⟨w1.heap.size, 1, none⟩ = some (.int .u64 (loT i : Nat)) := hc 1 0
    have c2' : ((w1.alloc (.cells #[.int .u64 (hiT i : Nat), .int .u64 (loT i : Nat), .int .i64 (S : Int)] 199))).cell? ⟨w1.heap.size, 2, none⟩ = some (.int .i64 (S : Int)) := hc 2 0
    have hus := uscale_any X (hiT i) (loT i) S w1.heap.size hXl hhb hlo hS63 _ c0 c1 c2'
    rw [← HU2.out] at hus
    have HUS := Lib.hid hus
    have hs64 : ¬ (64 : Int) ≤ (S : Int) := by omega
    clear hus c0 c1 c2 hc HU2
    generalize w1.alloc (.cells #[.int .u64 (hiT i : Nat), .int .u64 (loT i : Nat), .int .i64 (S : Int)] 199) = W at *
    have hand := and1u U hUl
    have HAND := Lib.hid hand
    clear hand
    by_cases hU : 36028797018963966 ≤ U
    · have hv := HV2.out
      rw [if_pos hU] at hv
      have HV3 := Lib.hid hv; clear hv HV2
      have hUi : (36028797018963966 : Int) ≤ (U : Int) := by omega
      have hor := or_u (U / 2) (U % 2) (by omega) (by omega)
      rw [show ((U / 2 : Nat) : Int) = (U : Int) / 2 by omega, show ((U % 2 : Nat) : Int) = (U : Int) % 2 by omega] at hor
      have hQ : (U / 2 ||| U % 2) < 18446744073709551616 := Nat.or_lt_two_pow (n := 64) (by omega) (by omega)
      generalize (U / 2 ||| U % 2) = Q at *
      have HOR := Lib.hid hor
      clear hor
      go_upto_region 12 with (first | (go_at_call 168; refine HUS.out.mono ?_; rintro e w3 ⟨rfl, n, rfl⟩) | (go_at_call 173; refine (unmin_53 _).mono ?_; rintro e w4 ⟨rfl, rfl⟩) | (go_at_call 119; refine (bool2i_any _ _).mono ?_; rintro e w4 ⟨rfl, rfl⟩) | (simp only [HAND.out]) | fail)
      rw [HOR.out]
      have hrn := fun W => rnd_any Q hQ W
      have hpk := fun W => pack_any (bits .or .u64 sg (rnd Q : Nat)) (-(E - 1)) (by omega) (by omega) W
      rw [← HV3.out] at hpk
      have HRN := Lib.hid hrn; have HPK := Lib.hid hpk
      clear hrn hpk
      go_wp2_with (first | (go_at_call 172; refine (HRN.out _).mono ?_; rintro e w4 ⟨rfl, rfl⟩) | (go_at_call 192; refine (HPK.out _).mono ?_; rintro e w4 ⟨rfl, rfl⟩) | fail)
      go_returns
      exact ⟨rfl, HBL.out _⟩
    · have hv := HV2.out
      rw [if_neg hU] at hv
      have HV3 := Lib.hid hv; clear hv HV2
      have hUi : ¬ (36028797018963966 : Int) ≤ (U : Int) := by omega
      have hor := or_u U (U % 2) (by omega) (by omega)
      rw [show ((U % 2 : Nat) : Int) = (U : Int) % 2 by omega] at hor
      have hUU : U ||| U % 2 = U := by
        rcases Nat.mod_two_eq_zero_or_one U with o | o
        · rw [o, Nat.or_zero]
        · rw [o, Nt.or1]; omega
      rw [hUU] at hor
      have HOR := Lib.hid hor
      clear hor hUU
      go_upto_region 12 with (first | (go_at_call 168; refine HUS.out.mono ?_; rintro e w3 ⟨rfl, n, rfl⟩) | (go_at_call 173; refine (unmin_53 _).mono ?_; rintro e w4 ⟨rfl, rfl⟩) | (go_at_call 119; refine (bool2i_any _ _).mono ?_; rintro e w4 ⟨rfl, rfl⟩) | (simp only [HAND.out]) | fail)
      rw [HOR.out]
      have hrn := fun W => rnd_any U hUl W
      have hpk := fun W => pack_any (bits .or .u64 sg (rnd U : Nat)) (-E) (by omega) (by omega) W
      rw [← HV3.out] at hpk
      have HRN := Lib.hid hrn; have HPK := Lib.hid hpk
      clear hrn hpk
      go_wp2_with (first | (go_at_call 172; refine (HRN.out _).mono ?_; rintro e w4 ⟨rfl, rfl⟩) | (go_at_call 192; refine (HPK.out _).mono ?_; rintro e w4 ⟨rfl, rfl⟩) | fail)
      go_returns
      exact ⟨rfl, HBL.out _⟩
end Go.Proofs.YtnccpddjdgndcaaGreatDoor.Pf
end

section
/- A NUMBER THAT LIES WHERE b IS THE NEAREST ONE IS ROUNDED TO b by a float's own operations. No walk. -/
namespace Go.Proofs.YtnccpddjdgndcaaGreatDoor.Nt
open Go.Proofs.YtnccpddjdgndcaaGreatDoor.Fmt Ieee
theorem cut_even (neg : Bool) (n drop K : Nat) (hK : 1 ≤ K) (h1 : (2 * K) * 2 ^ drop ≤ 2 * n + 2 ^ drop) (h2 : 2 * n ≤ (2 * K + 1) * 2 ^ drop)
    (h3 : K % 2 = 1 → (2 * K) * 2 ^ drop < 2 * n + 2 ^ drop ∧ 2 * n < (2 * K + 1) * 2 ^ drop) : Toward.even.cut neg n drop = K := by
  have hG : 0 < 2 ^ drop := Nat.two_pow_pos _
  have hn : n ≠ 0 := by
    intro h0
    subst h0
    have := Nat.mul_le_mul_right (2 ^ drop) (show 2 ≤ 2 * K by omega)
    omega
  have hd : drop ≤ n.log2 + 2 := by
    have q := Nat.lt_log2_self (n := n)
    have c := Nat.mul_le_mul_right (2 ^ drop) (show 2 ≤ 2 * K by omega)
    have p : 2 ^ drop < 2 ^ (n.log2 + 2) := by
      have : 2 ^ (n.log2 + 2) = 2 ^ (n.log2 + 1) * 2 := by rw [← Nat.pow_succ]
      omega
    exact Nat.le_of_lt ((Nat.pow_lt_pow_iff_right (by decide)).1 p)
  unfold Toward.cut
  simp only [Nat.min_eq_left hd, Nat.one_shiftLeft]
  have hdm := Nat.div_add_mod n (2 ^ drop)
  have hr := Nat.mod_lt n hG
  generalize n / 2 ^ drop = low at *
  generalize n % 2 ^ drop = r at *
  generalize 2 ^ drop = G at *
  have e1 : (2 * K) * G = 2 * (G * K) := by grind
  have e2 : (2 * K + 1) * G = 2 * (G * K) + G := by grind
  rw [e1] at h1
  rw [e2] at h2
  rw [e1, e2] at h3
  have k1 : low ≤ K := by
    rcases Nat.lt_or_ge K low with g | g
    · have := Nat.mul_le_mul_left G (show K + 1 ≤ low by omega)
      have e3 : G * (K + 1) = G * K + G := by grind
      omega
    · exact g
  have k2 : K ≤ low + 1 := by
    rcases Nat.lt_or_ge (low + 1) K with g | g
    · have := Nat.mul_le_mul_left G (show low + 2 ≤ K by omega)
      have e3 : G * (low + 2) = G * low + 2 * G := by grind
      omega
    · exact g
  rcases Nat.lt_or_ge low K with g | g
  · obtain rfl : K = low + 1 := by omega
    have e3 : G * (low + 1) = G * low + G := by grind
    rw [e3] at h1 h2 h3
    have m : (decide (G < 2 * r) || (G == 2 * r && low % 2 == 1)) = true := by
      rcases Nat.lt_or_ge G (2 * r) with q | q
      · simp [q]
      · have q2 : G = 2 * r := by omega
        have : ¬ (low + 1) % 2 = 1 := fun h => by have := h3 h; omega
        have o : low % 2 = 1 := by omega
        simp [q2, o]
    simp only [m]
    rfl
  · obtain rfl : K = low := by omega
    have m : (decide (G < 2 * r) || (G == 2 * r && K % 2 == 1)) = false := by
      have q1 : ¬ G < 2 * r := by omega
      rcases Nat.lt_or_ge (2 * r) G with q | q
      · have q2 : (G == 2 * r) = false := by rw [beq_eq_false_iff_ne]; omega
        simp [q1, q2]
      · have : ¬ K % 2 = 1 := fun h => by have := h3 h; omega
        have o : (K % 2 == 1) = false := by rw [beq_eq_false_iff_ne]; omega
        simp [q1, o]
    simp only [m]
    rfl
theorem cut_at (neg : Bool) (mag K : Nat) (place last : Int) (hp0 : -1900 ≤ place) (hl0 : -1900 ≤ last) (hK : 1 ≤ K)
    (h1 : (2 * K) * pw2 last ≤ 2 * (mag * pw2 place) + pw2 last) (h2 : 2 * (mag * pw2 place) ≤ (2 * K + 1) * pw2 last)
    (h3 : K % 2 = 1 → (2 * K) * pw2 last < 2 * (mag * pw2 place) + pw2 last ∧ 2 * (mag * pw2 place) < (2 * K + 1) * pw2 last) :
    Toward.even.cut neg (mag <<< (place - last).toNat) (last - place).toNat = K := by
  rw [Nat.shiftLeft_eq]
  rcases Int.lt_or_le place last with g | g
  · have z : (place - last).toNat = 0 := by omega
    rw [z, Nat.pow_zero, Nat.mul_one]
    have e := pw2_step place last (last - place).toNat (by omega) (by omega)
    have P := pw2_pos place
    rw [e] at h1 h2 h3
    generalize pw2 place = u at *
    generalize (last - place).toNat = dr at *
    have a1 : (2 * K) * (u * 2 ^ dr) = ((2 * K) * 2 ^ dr) * u := by grind
    have a2 : 2 * (mag * u) + u * 2 ^ dr = (2 * mag + 2 ^ dr) * u := by grind
    have a3 : 2 * (mag * u) = (2 * mag) * u := by grind
    have a4 : (2 * K + 1) * (u * 2 ^ dr) = ((2 * K + 1) * 2 ^ dr) * u := by grind
    rw [a1, a2] at h1
    rw [a3, a4] at h2
    rw [a1, a2, a3, a4] at h3
    exact cut_even neg mag dr K hK (Nat.le_of_mul_le_mul_right h1 P) (Nat.le_of_mul_le_mul_right h2 P) (fun h => ⟨Nat.lt_of_mul_lt_mul_right (h3 h).1, Nat.lt_of_mul_lt_mul_right (h3 h).2⟩)
  · have z : (last - place).toNat = 0 := by omega
    have e := pw2_step last place (place - last).toNat (by omega) (by omega)
    have P := pw2_pos last
    rw [e] at h1 h2 h3
    rw [z]
    generalize pw2 last = u at *
    generalize (place - last).toNat = dr at *
    have a2 : 2 * (mag * (u * 2 ^ dr)) + u = (2 * (mag * 2 ^ dr) + 1) * u := by grind
    have a3 : 2 * (mag * (u * 2 ^ dr)) = (2 * (mag * 2 ^ dr)) * u := by grind
    rw [a2] at h1
    rw [a3] at h2
    rw [a2, a3] at h3
    have b1 := Nat.le_of_mul_le_mul_right h1 P
    have b2 := Nat.le_of_mul_le_mul_right h2 P
    refine cut_even neg _ 0 K hK ?_ ?_ (fun h => ⟨?_, ?_⟩)
    · rw [Nat.pow_zero, Nat.mul_one]; exact b1
    · rw [Nat.pow_zero, Nat.mul_one]; exact b2
    · rw [Nat.pow_zero, Nat.mul_one]; exact Nat.lt_of_mul_lt_mul_right (h3 h).1
    · rw [Nat.pow_zero, Nat.mul_one]; exact Nat.lt_of_mul_lt_mul_right (h3 h).2
theorem least_eq : double.leastPlace = -1074 := by decide
theorem binade_eq : double.binade = 4503599627370496 := by decide
theorem inf_eq : double.infRung = 9218868437227405312 := by decide
theorem frac_eq : double.fractionBits = 52 := rfl
theorem rung_eq (b : Nat) (h : b < 9223372036854775808) : (bE b - -1074).toNat * 4503599627370496 + bM b = b := by
  have e0 : bexp b = b / 4503599627370496 := by unfold bexp; omega
  have e1 : bman b = b % 4503599627370496 := rfl
  unfold bM bE
  split <;> omega
theorem rung_low (b : Nat) (h : b < 9223372036854775808) (h1 : -1074 < bE b) (h2 : bM b = 4503599627370496) : (bE b - 1 - -1074).toNat * 4503599627370496 + 9007199254740992 = b := by
  have q := rung_eq b h
  have e : (bE b - -1074).toNat = (bE b - 1 - -1074).toNat + 1 := by omega
  rw [e, h2] at q
  generalize (bE b - 1 - -1074).toNat = k at *
  rw [Nat.add_mul, Nat.add_assoc] at q
  exact q
theorem rung_j (j X : Nat) (h : j ≤ 52) (hX : X < 9007199254740992) : min ((-(j : Int) - -1074).toNat * 4503599627370496 + X) 9218868437227405312 = (1074 - j) * 4503599627370496 + X := by
  have : (-(j : Int) - -1074).toNat = 1074 - j := by omega
  rw [this]
  have h2 : (1074 - j) * 4503599627370496 + X ≤ 9218868437227405312 := by omega
  exact Nat.min_eq_left h2
theorem nearest_of (neg : Bool) (b mag : Nat) (place : Int) (h1 : 1 ≤ b) (h2 : b < 9218868437227405312) (hm : mag ≠ 0) (hp0 : -1900 ≤ place) (hp1 : place ≤ 1900)
    (r1 : lowQ b * pw2 (bE b - 2) ≤ mag * pw2 place) (r2 : mag * pw2 place ≤ (4 * bM b + 2) * pw2 (bE b - 2))
    (r3 : bM b % 2 = 1 → lowQ b * pw2 (bE b - 2) < mag * pw2 place ∧ mag * pw2 place < (4 * bM b + 2) * pw2 (bE b - 2)) : double.nearest neg mag place = double.word neg b := by
  obtain ⟨f1, f2, f3, f4, f5, f6, f7⟩ := bM_facts b h1 h2
  have hL1 := Nat.log2_self_le hm
  have hL2 := Nat.lt_log2_self (n := mag)
  have t0 := pw2_pos (bE b - 2)
  have k1 : place + (mag.log2 : Int) ≤ bE b + 52 := by
    have c1 : pw2 (place + mag.log2) = pw2 place * 2 ^ mag.log2 := pw2_step _ _ _ (by omega) (by omega)
    have c2 : pw2 (bE b + 53) = pw2 (bE b - 2) * 2 ^ 55 := pw2_step _ _ _ (by omega) (by omega)
    have c3 := Nat.mul_le_mul_right (pw2 place) hL1
    have c4 : (4 * bM b + 2) * pw2 (bE b - 2) < 36028797018963968 * pw2 (bE b - 2) := Nat.mul_lt_mul_of_pos_right (by omega) t0
    rw [show (2 : Nat) ^ 55 = 36028797018963968 by decide] at c2
    have := pw2_lt (a := place + (mag.log2 : Int)) (b := bE b + 53) (by omega) (by rw [c1, c2, Nat.mul_comm (pw2 place)]; omega)
    omega
  have k2 : -1074 < bE b → bE b + 51 ≤ place + (mag.log2 : Int) := by
    intro hb
    have := f6 hb
    have c1 : pw2 (place + mag.log2 + 1) = pw2 place * 2 ^ (mag.log2 + 1) := pw2_step _ _ _ (by omega) (by omega)
    have c2 : pw2 (bE b + 51) = pw2 (bE b - 2) * 2 ^ 53 := pw2_step _ _ _ (by omega) (by omega)
    have c3 : mag * pw2 place < 2 ^ (mag.log2 + 1) * pw2 place := Nat.mul_lt_mul_of_pos_right hL2 (pw2_pos _)
    have c4 := Nat.mul_le_mul_right (pw2 (bE b - 2)) (show 9007199254740992 ≤ lowQ b by omega)
    rw [show (2 : Nat) ^ 53 = 9007199254740992 by decide] at c2
    have := pw2_lt (a := bE b + 51) (b := place + (mag.log2 : Int) + 1) (by omega) (by rw [c1, c2, Nat.mul_comm (pw2 place)]; omega)
    omega
  have e0 : bexp b = b / 4503599627370496 := by unfold bexp; omega
  have e1 : bman b = b % 4503599627370496 := rfl
  unfold Format.nearest
  rw [if_neg hm]
  simp only [least_eq, binade_eq, inf_eq, frac_eq]
  obtain ⟨last, hlast⟩ : ∃ last : Int, max (place + (mag.log2 : Int) - (52 : Nat)) (-1074) = last := ⟨_, rfl⟩
  rw [hlast]
  have hcase : last = bE b ∨ (last = bE b - 1 ∧ -1074 < bE b ∧ place + (mag.log2 : Int) = bE b + 51) := by omega
  rcases hcase with g | ⟨g, g2, g3⟩
  · have q : pw2 last = pw2 (bE b - 2) * 2 ^ 2 := by rw [g]; exact pw2_step _ _ _ (by omega) (by omega)
    have hc := cut_at neg mag (bM b) place last hp0 (by omega) f1
    rw [q] at hc
    have low := Nat.mul_le_mul_right (pw2 (bE b - 2)) f5
    generalize pw2 (bE b - 2) = t at *
    generalize mag * pw2 place = V at *
    have d1 : (4 * bM b - 2) * t + 2 * t = 4 * (bM b * t) := by
      rw [← Nat.add_mul, show 4 * bM b - 2 + 2 = 4 * bM b by omega]; grind
    have d2 : (4 * bM b + 2) * t = 4 * (bM b * t) + 2 * t := by grind
    have d3 : 2 * bM b * (t * 2 ^ 2) = 8 * (bM b * t) := by grind
    have d4 : (2 * bM b + 1) * (t * 2 ^ 2) = 8 * (bM b * t) + 4 * t := by grind
    have d5 : t * 2 ^ 2 = 4 * t := by grind
    rw [d3, d4, d5] at hc
    have hc2 := hc (by omega) (by omega) (fun h => by have := r3 h; omega)
    clear hc
    rw [hc2, g, rung_eq b (Nat.lt_trans h2 (by decide)), Nat.min_eq_left (Nat.le_of_lt h2)]
  · have hM := f6 g2
    have v1 : mag * pw2 place < 18014398509481984 * pw2 (bE b - 2) := by
      have c1 : pw2 (bE b + 52) = pw2 place * 2 ^ (mag.log2 + 1) := by
        rw [show bE b + 52 = place + (mag.log2 : Int) + 1 by omega]
        exact pw2_step _ _ _ (by omega) (by omega)
      have c2 : pw2 (bE b + 52) = pw2 (bE b - 2) * 2 ^ 54 := pw2_step _ _ _ (by omega) (by omega)
      have c3 : mag * pw2 place < 2 ^ (mag.log2 + 1) * pw2 place := Nat.mul_lt_mul_of_pos_right hL2 (pw2_pos _)
      rw [show (2 : Nat) ^ 54 = 18014398509481984 by decide] at c2
      rw [Nat.mul_comm (2 ^ (mag.log2 + 1)), ← c1, c2] at c3
      omega
    have hM2 : bM b = 4503599627370496 := by
      have : lowQ b < 18014398509481984 := Nat.lt_of_mul_lt_mul_right (Nat.lt_of_le_of_lt r1 v1)
      omega
    have hq := f7 g2 hM2
    have q : pw2 last = pw2 (bE b - 2) * 2 ^ 1 := by rw [g]; exact pw2_step _ _ _ (by omega) (by omega)
    have hc := cut_at neg mag 9007199254740992 place last hp0 (by omega) (by decide)
    rw [q] at hc
    rw [hq] at r1
    generalize pw2 (bE b - 2) = t at *
    generalize mag * pw2 place = V at *
    have hc2 := hc (by omega) (by omega) (fun h => by omega)
    clear hc
    have re := rung_low b (Nat.lt_trans h2 (by decide)) g2 hM2
    rw [hc2, g, re, Nat.min_eq_left (Nat.le_of_lt h2)]
/-- what a number's word is read as -/
theorem read_word (neg : Bool) (b : Nat) (h : b < 9218868437227405312) : double.read (double.word neg b) = .number neg (bM b) (bE b) := by
  have hw : double.signWeight = 9223372036854775808 := by decide
  have e0 : bexp b = b / 4503599627370496 := by unfold bexp; omega
  have e1 : bman b = b % 4503599627370496 := rfl
  unfold Format.read Format.word
  simp only [hw, binade_eq, inf_eq, least_eq]
  have r1 : (if neg = true then 9223372036854775808 + b else b) % 9223372036854775808 = b := by split <;> omega
  have r2 : ((if neg = true then 9223372036854775808 + b else b) / 9223372036854775808 % 2 == 1) = neg := by
    cases neg
    · rw [if_neg (by decide), Nat.div_eq_of_lt (by omega)]; rfl
    · rw [if_pos rfl, show (9223372036854775808 + b) / 9223372036854775808 = 1 by omega]; rfl
  rw [r1, r2]
  unfold bM bE
  by_cases hx : bexp b = 0
  · rw [if_pos (by omega), if_pos hx, if_pos hx]
    congr 1
    omega
  · rw [if_neg (by omega), if_pos h, if_neg hx, if_neg hx, e0, e1]
    congr 1
    omega
/-- a whole number of at most 53 digits in twos has a word of its own -/
theorem exact_word (neg : Bool) (d : Nat) (h1 : 1 ≤ d) (h2 : d ≤ 9007199254740992) : ∃ b, 1 ≤ b ∧ b < 9218868437227405312 ∧ double.nearest neg d 0 = double.word neg b ∧ bM b * pw2 (bE b) = d * pw2 0 := by
  have hm : d ≠ 0 := by omega
  have hL1 := Nat.log2_self_le hm
  have hL2 := Nat.lt_log2_self (n := d)
  have hL : d.log2 ≤ 53 := by
    have : 2 ^ d.log2 < 2 ^ 54 := Nat.lt_of_le_of_lt hL1 (by omega)
    have := (Nat.pow_lt_pow_iff_right (by decide : 1 < 2)).1 this
    omega
  by_cases h53 : d = 9007199254740992
  · subst h53
    refine ⟨4845873199050653696, by decide, by decide, ?_, ?_⟩
    · cases neg <;> decide +kernel
    · have e : bM 4845873199050653696 = 4503599627370496 ∧ bE 4845873199050653696 = 1 := by decide +kernel
      rw [e.1, e.2]
      have q : pw2 1 = pw2 0 * 2 ^ 1 := pw2_step _ _ _ (by omega) (by omega)
      rw [q]
      generalize pw2 0 = t
      omega
  have hL3 : d.log2 ≤ 52 := by
    have : 2 ^ d.log2 < 2 ^ 53 := Nat.lt_of_le_of_lt hL1 (by omega)
    have := (Nat.pow_lt_pow_iff_right (by decide : 1 < 2)).1 this
    omega
  obtain ⟨j, hj⟩ : ∃ j, j + d.log2 = 52 := ⟨52 - d.log2, by omega⟩
  have n1 : 4503599627370496 ≤ d * 2 ^ j := by
    have := Nat.mul_le_mul_right (2 ^ j) hL1
    rw [← Nat.pow_add, show d.log2 + j = 52 by omega] at this
    omega
  have n2 : d * 2 ^ j < 9007199254740992 := by
    have := Nat.mul_lt_mul_of_pos_right hL2 (Nat.two_pow_pos j)
    rw [← Nat.pow_add, show d.log2 + 1 + j = 53 by omega] at this
    omega
  refine ⟨(1074 - j) * 4503599627370496 + d * 2 ^ j, by omega, by omega, ?_, ?_⟩
  · unfold Format.nearest
    rw [if_neg hm]
    simp only [least_eq, binade_eq, inf_eq, frac_eq]
    have hlast : max (0 + (d.log2 : Int) - (52 : Nat)) (-1074) = -(j : Int) := by omega
    rw [hlast]
    have hc := cut_at neg d (d * 2 ^ j) 0 (-(j : Int)) (by omega) (by omega) (by omega)
    have q : pw2 0 = pw2 (-(j : Int)) * 2 ^ j := pw2_step _ _ _ (by omega) (by omega)
    rw [q] at hc
    have t0 := pw2_pos (-(j : Int))
    generalize pw2 (-(j : Int)) = t at *
    generalize hX : d * 2 ^ j = X at *
    have d1 : 2 * (d * (t * 2 ^ j)) = 2 * (X * t) := by rw [← hX]; grind
    have d2 : 2 * X * t = 2 * (X * t) := by grind
    have d3 : (2 * X + 1) * t = 2 * (X * t) + t := by grind
    rw [d1, d2, d3] at hc
    have hc2 := hc (by omega) (by omega) (fun _ => by omega)
    clear hc
    rw [hc2, rung_j j X (by omega) n2]
  · have hx : bexp ((1074 - j) * 4503599627370496 + d * 2 ^ j) = 1075 - j := by unfold bexp; omega
    have hy : bman ((1074 - j) * 4503599627370496 + d * 2 ^ j) = d * 2 ^ j - 4503599627370496 := by unfold bman; omega
    unfold bM bE
    rw [hx, hy, if_neg (by omega), if_neg (by omega), show 4503599627370496 + (d * 2 ^ j - 4503599627370496) = d * 2 ^ j by omega]
    have q : pw2 0 = pw2 (((1075 - j : Nat) : Int) - 1075) * 2 ^ j := pw2_step _ _ _ (by omega) (by omega)
    rw [q]; grind
end Go.Proofs.YtnccpddjdgndcaaGreatDoor.Nt
end

section
/- PRODUCTS AND QUOTIENTS OF WORDS are the number that is the nearest one. No walk. -/
namespace Go.Proofs.YtnccpddjdgndcaaGreatDoor.Nt
open Go.Proofs.YtnccpddjdgndcaaGreatDoor.Fmt Ieee
theorem pw2_split (a b c : Int) (h : a + b = c) (ha : -900 ≤ a) (hb : -900 ≤ b) : pw2 a * pw2 b = pw2 c * pw2 0 :=
  pw2_add a b c 0 (by omega) (by omega) (by omega) (by omega) (by omega)
/-- the three bounds, of a number told as digits times a power of ten -/
theorem inr_up (b d k : Nat) (h : InR b (d * pw2 0 * pw10 k)) :
    lowQ b * pw2 (bE b - 2) ≤ d * 10 ^ k * pw2 0 ∧ d * 10 ^ k * pw2 0 ≤ (4 * bM b + 2) * pw2 (bE b - 2) ∧
    (bM b % 2 = 1 → lowQ b * pw2 (bE b - 2) < d * 10 ^ k * pw2 0 ∧ d * 10 ^ k * pw2 0 < (4 * bM b + 2) * pw2 (bE b - 2)) := by
  obtain ⟨h1, h2, h3⟩ := h
  have P := pw10_pos 0
  have e : d * pw2 0 * pw10 k = d * 10 ^ k * pw2 0 * pw10 0 := by
    rw [pw10_step 0 k k (by omega) (by omega)]; grind
  rw [e] at h1 h2 h3
  exact ⟨Nat.le_of_mul_le_mul_right h1 P, Nat.le_of_mul_le_mul_right h2 P, fun h => ⟨Nat.lt_of_mul_lt_mul_right (h3 h).1, Nat.lt_of_mul_lt_mul_right (h3 h).2⟩⟩
theorem inr_down (b d k : Nat) (hk : k ≤ 300) (h : InR b (d * pw2 0 * pw10 (-(k : Int)))) :
    lowQ b * pw2 (bE b - 2) * 10 ^ k ≤ d * pw2 0 ∧ d * pw2 0 ≤ (4 * bM b + 2) * pw2 (bE b - 2) * 10 ^ k ∧
    (bM b % 2 = 1 → lowQ b * pw2 (bE b - 2) * 10 ^ k < d * pw2 0 ∧ d * pw2 0 < (4 * bM b + 2) * pw2 (bE b - 2) * 10 ^ k) := by
  obtain ⟨h1, h2, h3⟩ := h
  have P := pw10_pos (-(k : Int))
  have e := pw10_step (-(k : Int)) 0 k (by omega) (by omega)
  rw [e] at h1 h2 h3
  have a1 : ∀ x, x * (pw10 (-(k : Int)) * 10 ^ k) = x * 10 ^ k * pw10 (-(k : Int)) := by intro x; grind
  simp only [a1] at h1 h2 h3
  exact ⟨Nat.le_of_mul_le_mul_right h1 P, Nat.le_of_mul_le_mul_right h2 P, fun h => ⟨Nat.lt_of_mul_lt_mul_right (h3 h).1, Nat.lt_of_mul_lt_mul_right (h3 h).2⟩⟩
/-- a whole number's word times ten's word -/
theorem mul_word (s t : Bool) (a c b d k : Nat) (h1 : 1 ≤ b) (h2 : b < 9218868437227405312) (ha : 1 ≤ a) (ha2 : a < 9218868437227405312) (hc : 1 ≤ c) (hc2 : c < 9218868437227405312)
    (ea : bM a * pw2 (bE a) = d * pw2 0) (ec : bM c * pw2 (bE c) = 10 ^ k * pw2 0) (hba : -900 ≤ bE a) (hba2 : bE a ≤ 900) (hbc : -900 ≤ bE c) (hbc2 : bE c ≤ 900)
    (h : InR b (d * pw2 0 * pw10 k)) : double.mul (double.word s a) (double.word t c) = some (double.word (s ^^ t) b) := by
  obtain ⟨r1, r2, r3⟩ := inr_up b d k h
  obtain ⟨f1, _⟩ := bM_facts a ha ha2
  obtain ⟨g1, _⟩ := bM_facts c hc hc2
  have e : bM a * bM c * pw2 (bE a + bE c) = d * 10 ^ k * pw2 0 := by
    have q := pw2_split (bE a) (bE c) _ rfl hba hbc
    have P := pw2_pos 0
    have : bM a * bM c * pw2 (bE a + bE c) * pw2 0 = d * 10 ^ k * pw2 0 * pw2 0 := by
      rw [Nat.mul_assoc (bM a * bM c), ← q, show bM a * bM c * (pw2 (bE a) * pw2 (bE c)) = (bM a * pw2 (bE a)) * (bM c * pw2 (bE c)) by grind, ea, ec]; grind
    exact Nat.eq_of_mul_eq_mul_right P this
  unfold Format.mul
  rw [read_word s a ha2, read_word t c hc2]
  show some (double.nearest _ _ _) = _
  refine congrArg some ?_
  rw [← e] at r1 r2 r3
  exact nearest_of _ b _ _ h1 h2 (Nat.ne_of_gt (Nat.mul_pos f1 g1)) (by omega) (by omega) r1 r2 r3
/-- a quotient's digits and what is left, against c in twos -/
theorem div_side (d k m n c D q : Nat) (i j e P : Int) (more C : Nat) (hn : 1 ≤ n) (e1 : m * pw2 i = d * pw2 0) (e2 : n * pw2 j = 10 ^ k * pw2 0) (hP : P = i - j - more - 1) (hC : C = c * 2 ^ (e - P - 1).toNat) (he : P + 1 ≤ e)
    (hD : D = m * 2 ^ more) (hq : q = 2 * (D / n) + (D % n != 0).toNat) (hi : -600 ≤ i) (hi2 : i ≤ 600) (hj : -600 ≤ j) (hj2 : j ≤ 600) (hm : more ≤ 600) :
    (c * pw2 e * 10 ^ k ≤ d * pw2 0 → c * pw2 e ≤ q * pw2 P) ∧ (c * pw2 e * 10 ^ k < d * pw2 0 → c * pw2 e < q * pw2 P) ∧
    (d * pw2 0 ≤ c * pw2 e * 10 ^ k → q * pw2 P ≤ c * pw2 e) ∧ (d * pw2 0 < c * pw2 e * 10 ^ k → q * pw2 P < c * pw2 e) := by
  have X := pw2_pos 0
  have Z := Nat.mul_pos (pw2_pos (P + 1)) (pw2_pos j)
  have t1 : pw2 e = pw2 (P + 1) * 2 ^ (e - P - 1).toNat := pw2_step _ _ _ (by omega) (by omega)
  have t2 : pw2 i = pw2 (i - more) * 2 ^ more := pw2_step _ _ _ (by omega) (by omega)
  have t3 : pw2 (P + 1) * pw2 j = pw2 (i - more) * pw2 0 := pw2_add _ _ _ _ (by omega) (by omega) (by omega) (by omega) (by omega)
  have t4 : pw2 (P + 1) = pw2 P * 2 ^ 1 := pw2_step _ _ _ (by omega) (by omega)
  have h1 : c * pw2 e * 10 ^ k * pw2 0 = C * n * (pw2 (P + 1) * pw2 j) := by
    rw [show C * n * (pw2 (P + 1) * pw2 j) = C * pw2 (P + 1) * (n * pw2 j) by grind, e2, hC, t1]; grind
  have h2 : d * pw2 0 * pw2 0 = D * (pw2 (P + 1) * pw2 j) := by
    rw [← e1, hD, t3, t2]; grind
  have u1 := le_turn X Z h1 h2
  have u2 := le_turn X Z h2 h1
  have cp : c * pw2 e = 2 * C * pw2 P := by rw [t1, hC, t4]; grind
  rw [u1.1, u1.2, u2.1, u2.2, cp]
  have hdm := Nat.div_add_mod D n
  have hr := Nat.mod_lt D (show n > 0 by omega)
  have hq2 : q = 2 * (D / n) + (if D % n = 0 then 0 else 1) := by
    rw [hq]
    by_cases z : D % n = 0
    · rw [z]; rfl
    · rw [if_neg z, show (D % n != 0) = true by simp [z]]; rfl
  generalize D / n = Q at *
  generalize D % n = R at *
  have m1 : ∀ y, n * y + n * 1 = n * (y + 1) := by intro y; grind
  refine ⟨fun h => Nat.mul_le_mul_right _ ?_, fun h => Nat.mul_lt_mul_of_pos_right ?_ (pw2_pos P), fun h => Nat.mul_le_mul_right _ ?_, fun h => Nat.mul_lt_mul_of_pos_right ?_ (pw2_pos P)⟩
  · have : C ≤ Q := by
      rcases Nat.lt_or_ge Q C with g | g
      · have := Nat.mul_le_mul_left n (show Q + 1 ≤ C by omega)
        rw [← m1, Nat.mul_comm n C] at this; omega
      · exact g
    split at hq2 <;> omega
  · rcases Nat.lt_or_ge Q C with g | g
    · have := Nat.mul_le_mul_left n (show Q + 1 ≤ C by omega)
      rw [← m1, Nat.mul_comm n C] at this; omega
    · by_cases g2 : C = Q
      · subst g2
        rw [Nat.mul_comm C n] at h
        split at hq2 <;> omega
      · split at hq2 <;> omega
  · rcases Nat.lt_or_ge Q C with g | g
    · split at hq2 <;> omega
    · have := Nat.mul_le_mul_left n g
      rw [Nat.mul_comm n C] at this
      have r0 : R = 0 := by omega
      have : n * Q = n * C := by rw [Nat.mul_comm n C]; omega
      have := Nat.eq_of_mul_eq_mul_left (show 0 < n by omega) this
      rw [if_pos r0] at hq2
      omega
  · have : Q < C := by
      rcases Nat.lt_or_ge Q C with g | g
      · exact g
      · have := Nat.mul_le_mul_left n g
        rw [Nat.mul_comm n C] at this; omega
    split at hq2 <;> omega
/-- a whole number's word over ten's word -/
theorem div_word (s t : Bool) (a c b d k : Nat) (h1 : 1 ≤ b) (h2 : b < 9218868437227405312) (ha : 1 ≤ a) (ha2 : a < 9218868437227405312) (hc : 1 ≤ c) (hc2 : c < 9218868437227405312) (hk : k ≤ 300)
    (ea : bM a * pw2 (bE a) = d * pw2 0) (ec : bM c * pw2 (bE c) = 10 ^ k * pw2 0) (hba : -600 ≤ bE a) (hba2 : bE a ≤ 600) (hbc : -600 ≤ bE c) (hbc2 : bE c ≤ 600)
    (h : InR b (d * pw2 0 * pw10 (-(k : Int)))) : double.div (double.word s a) (double.word t c) = some (double.word (s ^^ t) b) := by
  obtain ⟨r1, r2, r3⟩ := inr_down b d k hk h
  obtain ⟨f1, f2, _⟩ := bM_facts a ha ha2
  obtain ⟨g1, g2, _⟩ := bM_facts c hc hc2
  obtain ⟨b1, b2, b3, b4, b5, b6, b7⟩ := bM_facts b h1 h2
  unfold Format.div
  rw [read_word s a ha2, read_word t c hc2]
  show Option.map double.write (if bM c = 0 then (if bM a = 0 then none else some (Datum.infinity (s ^^ t))) else
    some (Datum.number (s ^^ t) (2 * ((bM a <<< (double.fractionBits + 2 + (bM c).log2 - (bM a).log2)) / bM c) + ((bM a <<< (double.fractionBits + 2 + (bM c).log2 - (bM a).log2)) % bM c != 0).toNat) (bE a - bE c - ((double.fractionBits + 2 + (bM c).log2 - (bM a).log2 : Nat) : Int) - 1))) = _
  rw [if_neg (show bM c ≠ 0 by omega)]
  show some (double.nearest _ _ _) = _
  refine congrArg some ?_
  generalize bM a = m at *
  generalize bM c = n at *
  generalize bE a = i at *
  generalize bE c = j at *
  rw [Nat.shiftLeft_eq]
  have hm0 : m ≠ 0 := by omega
  have hn0 : n ≠ 0 := by omega
  have m1 := Nat.log2_self_le hm0
  have m2 := Nat.lt_log2_self (n := m)
  have n1 := Nat.log2_self_le hn0
  have n2 := Nat.lt_log2_self (n := n)
  have ml : m.log2 ≤ 53 := by
    have : 2 ^ m.log2 < 2 ^ 54 := Nat.lt_of_le_of_lt m1 (by omega)
    have := (Nat.pow_lt_pow_iff_right (by decide : 1 < 2)).1 this
    omega
  have nl : n.log2 ≤ 53 := by
    have : 2 ^ n.log2 < 2 ^ 54 := Nat.lt_of_le_of_lt n1 (by omega)
    have := (Nat.pow_lt_pow_iff_right (by decide : 1 < 2)).1 this
    omega
  obtain ⟨more, hmore⟩ : ∃ more : Nat, double.fractionBits + 2 + n.log2 - m.log2 = more := ⟨_, rfl⟩
  rw [hmore]
  rw [frac_eq] at hmore
  have hq0 : 9007199254740992 ≤ m * 2 ^ more / n := by
    rw [Nat.le_div_iff_mul_le (by omega)]
    have c1 := Nat.mul_le_mul_right (2 ^ more) m1
    rw [← Nat.pow_add, show m.log2 + more = n.log2 + 1 + 53 by omega, Nat.pow_add, show (2 : Nat) ^ 53 = 9007199254740992 by decide] at c1
    omega
  obtain ⟨P, hP⟩ : ∃ P : Int, i - j - (more : Nat) - 1 = P := ⟨_, rfl⟩
  rw [hP]
  obtain ⟨q, hq⟩ : ∃ q, 2 * (m * 2 ^ more / n) + (m * 2 ^ more % n != 0).toNat = q := ⟨_, rfl⟩
  rw [hq]
  have side := fun (c' : Nat) (e : Int) (he : P + 1 ≤ e) => div_side d k m n c' (m * 2 ^ more) q i j e P more _ (by omega) ea ec hP.symm rfl he rfl hq.symm (by omega) (by omega) (by omega) (by omega) (by omega)
  have t4 : pw2 (P + 1) = pw2 P * 2 ^ 1 := pw2_step _ _ _ (by omega) (by omega)
  have hPe : P + 1 ≤ bE b - 1 := by
    have s1 := (side (m * 2 ^ more / n) (P + 1) (by omega))
    -- the quotient's whole part is not above the number
    have w0 : q * pw2 P ≤ (4 * bM b + 2) * pw2 (bE b - 2) ∨ P + 1 ≤ bE b - 1 := by
      rcases Int.lt_or_le (bE b - 2) (P + 1) with g | g
      · right
        -- then the number would be too great
        rcases Int.lt_or_le (bE b - 1) (P + 1) with g2 | g2
        · exfalso
          have s2 := (side 9007199254740992 (P + 1) (by omega))
          have z : pw2 (P + 1) = pw2 (bE b - 2) * 2 ^ (P + 1 - (bE b - 2)).toNat := pw2_step _ _ _ (by omega) (by omega)
          have z2 : 2 ^ 2 ≤ 2 ^ (P + 1 - (bE b - 2)).toNat := Nat.pow_le_pow_right (by decide) (by omega)
          have z3 : (4 * bM b + 2) * pw2 (bE b - 2) * 10 ^ k < 9007199254740992 * pw2 (P + 1) * 10 ^ k := by
            refine Nat.mul_lt_mul_of_pos_right ?_ (Nat.pow_pos (by decide))
            rw [z]
            have := Nat.mul_le_mul_left (pw2 (bE b - 2)) z2
            have c4 : (4 * bM b + 2) * pw2 (bE b - 2) < 36028797018963968 * pw2 (bE b - 2) := Nat.mul_lt_mul_of_pos_right (by omega) (pw2_pos _)
            omega
          have z4 := s2.2.2.2 (Nat.lt_of_le_of_lt r2 z3)
          rw [t4] at z4
          have z5 : 9007199254740992 * (pw2 P * 2 ^ 1) = 18014398509481984 * pw2 P := by grind
          rw [z5] at z4
          have := Nat.lt_of_mul_lt_mul_right z4
          omega
        · exact g2
      · exact Or.inr (by omega)
    rcases w0 with w0 | w0
    · have c3 := Nat.mul_le_mul_right (pw2 P) (show 18014398509481984 ≤ q by omega)
      have c4 : (4 * bM b + 2) * pw2 (bE b - 2) < 36028797018963968 * pw2 (bE b - 2) := Nat.mul_lt_mul_of_pos_right (by omega) (pw2_pos _)
      have c5 : pw2 (P + 54) = pw2 P * 2 ^ 54 := pw2_step _ _ _ (by omega) (by omega)
      have c6 : pw2 (bE b + 53) = pw2 (bE b - 2) * 2 ^ 55 := pw2_step _ _ _ (by omega) (by omega)
      rw [show (2 : Nat) ^ 54 = 18014398509481984 by decide] at c5
      rw [show (2 : Nat) ^ 55 = 36028797018963968 by decide] at c6
      have := pw2_lt (a := P + 54) (b := bE b + 53) (by omega) (by omega)
      omega
    · exact w0
  have t5 : pw2 (bE b - 1) = pw2 (bE b - 2) * 2 ^ 1 := pw2_step _ _ _ (by omega) (by omega)
  have up := side (2 * bM b + 1) (bE b - 1) hPe
  have u1 : (2 * bM b + 1) * pw2 (bE b - 1) = (4 * bM b + 2) * pw2 (bE b - 2) := by rw [t5]; grind
  rw [u1] at up
  have lo : (lowQ b * pw2 (bE b - 2) ≤ q * pw2 P) ∧ (bM b % 2 = 1 → lowQ b * pw2 (bE b - 2) < q * pw2 P) := by
    by_cases hz : bman b = 0 ∧ 2 ≤ bexp b
    · have hM : bM b = 4503599627370496 := by unfold bM; rw [if_neg (by omega), hz.1]
      refine ⟨?_, fun h => by rw [hM] at h; omega⟩
      rcases Int.lt_or_le (bE b - 2) (P + 1) with g | g
      · obtain rfl : P = bE b - 2 := by omega
        refine Nat.mul_le_mul_right _ ?_
        have : lowQ b = 18014398509481983 := by unfold lowQ; rw [if_pos hz, hM]
        omega
      · exact (side (lowQ b) (bE b - 2) g).1 r1
    · have hl : lowQ b = 2 * (2 * bM b - 1) := by unfold lowQ; rw [if_neg hz]; omega
      have l1 : (2 * bM b - 1) * pw2 (bE b - 1) = lowQ b * pw2 (bE b - 2) := by rw [t5, hl]; grind
      have sd := side (2 * bM b - 1) (bE b - 1) hPe
      rw [l1] at sd
      exact ⟨sd.1 r1, fun h => sd.2.1 (r3 h).1⟩
  exact nearest_of _ b q P h1 h2 (by omega) (by omega) (by omega) lo.1 (up.2.2.1 r2) (fun h => ⟨lo.2 h, up.2.2.2 (r3 h).2⟩)
end Go.Proofs.YtnccpddjdgndcaaGreatDoor.Nt
end

section
/- WHAT parseFloat64 ANSWERS is the number that is the nearest one. No walk. -/
namespace Go.Proofs.YtnccpddjdgndcaaGreatDoor.Pf
open Go.RowKit Go.Proofs.YtnccpddjdgndcaaGreatDoor.Fmt Go.Proofs.YtnccpddjdgndcaaGreatDoor.Nt Ieee
def sgN (neg : Bool) : Nat := if neg then 9223372036854775808 else 0
theorem sgN_or (neg : Bool) (m : Nat) (h : m < 9223372036854775808) : sgN neg ||| m = sgN neg + m := by
  refine nat_join 63 _ _ ?_ (by rw [show (2 : Nat) ^ 63 = 9223372036854775808 by decide]; exact h)
  cases neg <;> decide
theorem word_eq (neg : Bool) (b : Nat) : double.word neg b = sgN neg + b := by
  unfold Format.word sgN
  have : double.signWeight = 9223372036854775808 := by decide
  rw [this]
  split <;> omega
theorem and52 (m : Nat) (h : m < 18446744073709551616) : bits .and .u64 (m : Int) 4503599627370496 = if m / 4503599627370496 % 2 = 1 then 4503599627370496 else 0 := by
  have h1 := and_u m 4503599627370496 h (by decide)
  rw [show ((4503599627370496 : Nat) : Int) = 4503599627370496 by decide] at h1
  rw [h1]
  have a1 : (m &&& 4503599627370496) / 2 ^ 52 = (m / 2 ^ 52) &&& (4503599627370496 / 2 ^ 52) := Nat.and_div_two_pow
  have a2 : (m &&& 4503599627370496) % 2 ^ 52 = (m % 2 ^ 52) &&& (4503599627370496 % 2 ^ 52) := Nat.and_mod_two_pow
  rw [show 4503599627370496 / 2 ^ 52 = 1 by decide, Nat.and_one_is_mod, show (2 : Nat) ^ 52 = 4503599627370496 by decide] at a1
  rw [show 4503599627370496 % 2 ^ 52 = 0 by decide, Nat.and_zero, show (2 : Nat) ^ 52 = 4503599627370496 by decide] at a2
  split <;> omega
theorem clear52 (m : Nat) (h : m < 18446744073709551616) (h1 : m / 4503599627370496 % 2 = 1) : bits .andNot .u64 (m : Int) 4503599627370496 = ((m - 4503599627370496 : Nat) : Int) := by
  have e := u64_andNot_nat m 4503599627370496 h (by decide)
  rw [show ((4503599627370496 : Nat) : Int) = 4503599627370496 by decide] at e
  rw [e]
  refine congrArg (fun n : Nat => (n : Int)) ?_
  have a1 : (m &&& (18446744073709551615 - 4503599627370496)) / 2 ^ 53 = (m / 2 ^ 53) &&& ((18446744073709551615 - 4503599627370496) / 2 ^ 53) := Nat.and_div_two_pow
  have a2 : (m &&& (18446744073709551615 - 4503599627370496)) % 2 ^ 53 = (m % 2 ^ 53) &&& ((18446744073709551615 - 4503599627370496) % 2 ^ 53) := Nat.and_mod_two_pow
  rw [show (18446744073709551615 - 4503599627370496) / 2 ^ 53 = 2 ^ 11 - 1 by decide, Nat.and_two_pow_sub_one_eq_mod] at a1
  rw [show (18446744073709551615 - 4503599627370496) % 2 ^ 53 = 2 ^ 52 - 1 by decide, Nat.and_two_pow_sub_one_eq_mod] at a2
  rw [show (2 : Nat) ^ 53 = 9007199254740992 by decide] at a1 a2
  rw [show (2 : Nat) ^ 11 = 2048 by decide] at a1
  rw [show (2 : Nat) ^ 52 = 4503599627370496 by decide] at a2
  omega
theorem packB_of (b : Nat) (neg : Bool) (h1 : 1 ≤ b) (h2 : b < 9218868437227405312) : packB (bits .or .u64 (sgN neg : Nat) (bM b : Nat)) (bE b) = (((double.word neg b : Nat) : Int), false) := by
  obtain ⟨f1, f2, f3, f4, _⟩ := bM_facts b h1 h2
  have hs : sgN neg = 0 ∨ sgN neg = 9223372036854775808 := by cases neg; exact Or.inl rfl; exact Or.inr rfl
  have e0 : bexp b = b / 4503599627370496 := by unfold bexp; omega
  have e1 : bman b = b % 4503599627370496 := rfl
  have ho := or_u (sgN neg) (bM b) (by omega) (by omega)
  rw [sgN_or neg _ (by omega)] at ho
  have ha := and52 (sgN neg + bM b) (by omega)
  unfold packB
  rw [ho, word_eq]
  by_cases hM : bM b < 4503599627370496
  · have hb : b = bM b := by
      by_cases q : bexp b = 0
      · have : bM b = bman b := by unfold bM; rw [if_pos q]
        omega
      · have : bM b = 4503599627370496 + bman b := by unfold bM; rw [if_neg q]
        omega
    rw [if_neg (by omega)] at ha
    rw [ha, if_pos rfl, ← hb]
  · have hx : bM b = 4503599627370496 + bman b ∧ bE b = (bexp b : Int) - 1075 ∧ bexp b ≠ 0 := by
      unfold bM bE at *
      by_cases q : bexp b = 0
      · rw [if_pos q] at hM; omega
      · rw [if_neg q, if_neg q]; exact ⟨rfl, rfl, q⟩
    rw [if_pos (by omega)] at ha
    rw [ha, if_neg (by decide), if_neg (by omega), clear52 _ (by omega) (by omega)]
    have hw : IntKind.u64.wrap (IntKind.u64.wrap (1075 + bE b) * 4503599627370496) = ((bexp b * 4503599627370496 : Nat) : Int) := by
      rw [hx.2.1, IntKind.wrap_u64, IntKind.wrap_u64]; omega
    rw [hw]
    have h3 := or_u (sgN neg + bM b - 4503599627370496) (bexp b * 4503599627370496) (by omega) (by omega)
    rw [h3]
    have e2 : sgN neg + bM b - 4503599627370496 = sgN neg ||| bman b := by rw [sgN_or neg _ (by omega)]; omega
    have e3 : sgN neg ||| bexp b * 4503599627370496 = sgN neg + bexp b * 4503599627370496 := sgN_or neg _ (by omega)
    have e4 : (sgN neg + bexp b * 4503599627370496) ||| bman b = sgN neg + bexp b * 4503599627370496 + bman b := by
      refine nat_join 52 _ _ ?_ (by rw [show (2 : Nat) ^ 52 = 4503599627370496 by decide]; omega)
      rw [show (2 : Nat) ^ 52 = 4503599627370496 by decide]; omega
    rw [e2, Nat.or_assoc, Nat.or_comm (bman b), ← Nat.or_assoc, e3, e4]
    have e5 : sgN neg + bexp b * 4503599627370496 + bman b = sgN neg + b := by omega
    rw [e5]
/-- parseFloat64 at digits that lie where b is the nearest number -/
theorem pfV_of (b d : Nat) (p : Int) (neg : Bool) (h1 : 1 ≤ b) (h2 : b < 9218868437227405312) (hd0 : 1 ≤ d) (hd : d < 144115188075855872) (hp0 : -348 ≤ p) (hp1 : p ≤ 347) (hr : InR b (d * pw2 0 * pw10 p)) :
    pfV d p (sgN neg : Nat) = (((double.word neg b : Nat) : Int), false) := by
  obtain ⟨s1, s2, s3, h⟩ := pf_M b d p h1 h2 hd0 hd hp0 hp1 hr
  unfold pfV
  rw [if_neg (by omega)]
  rcases h with ⟨g, u, r⟩ | ⟨g, u, r⟩
  · rw [if_neg (by omega), r, g, Int.neg_neg]
    exact packB_of b neg h1 h2
  · rw [if_pos u, r, g, show -(-bE b + 1 - 1) = bE b by omega]
    exact packB_of b neg h1 h2
end Go.Proofs.YtnccpddjdgndcaaGreatDoor.Pf
end

section
/- THE EXACT ROAD: a whole number's word times ten's word, or over it, is the number that is the nearest one. No walk. -/
namespace Go.Proofs.YtnccpddjdgndcaaGreatDoor.Pf
open Go.RowKit Go.Proofs.YtnccpddjdgndcaaGreatDoor.Fmt Go.Proofs.YtnccpddjdgndcaaGreatDoor.Nt Ieee
def tens : List Nat := [4607182418800017408, 4621819117588971520, 4636737291354636288, 4652007308841189376, 4666723172467343360, 4681608360884174848, 4696837146684686336, 4711630319722168320, 4726483295884279808, 4741671816366391296, 4756540486875873280, 4771362005757984768, 4786511204640096256, 4801453603149578240, 4816244402031689728, 4831355200913801216, 4846369599423283200, 4861130398305394688, 4876203697187506176, 4891288408196988160, 4906019910204099648, 4921056587992461136, 4936209963552724370]
def tn (k : Nat) : Nat := tens.getD k 0
theorem tens_ok : ∀ k, k < 23 → 1 ≤ tn k ∧ tn k < 9218868437227405312 ∧ bM (tn k) * pw2 (bE (tn k)) = 10 ^ k * pw2 0 ∧ -60 ≤ bE (tn k) ∧ bE (tn k) ≤ 60 := by decide +kernel
theorem exact_bds (b d : Nat) (h1 : 1 ≤ b) (h2 : b < 9218868437227405312) (hd : 1 ≤ d) (hd2 : d ≤ 9007199254740992) (e : bM b * pw2 (bE b) = d * pw2 0) : -60 ≤ bE b ∧ bE b ≤ 60 := by
  obtain ⟨f1, f2, f3, f4, _⟩ := bM_facts b h1 h2
  have P := pw2_pos (bE b)
  constructor
  · have c1 : pw2 (bE b + 53) = pw2 (bE b) * 2 ^ 53 := pw2_step _ _ _ (by omega) (by omega)
    have c2 : bM b * pw2 (bE b) < 9007199254740992 * pw2 (bE b) := Nat.mul_lt_mul_of_pos_right (by omega) P
    have c3 := Nat.mul_le_mul_right (pw2 0) hd
    rw [show (2 : Nat) ^ 53 = 9007199254740992 by decide] at c1
    have := pw2_lt (a := 0) (b := bE b + 53) (by omega) (by omega)
    omega
  · have c1 : pw2 (54 : Int) = pw2 0 * 2 ^ 54 := pw2_step _ _ _ (by omega) (by omega)
    have c2 := Nat.mul_le_mul_right (pw2 (bE b)) f1
    have c3 := Nat.mul_le_mul_right (pw2 0) hd2
    rw [show (2 : Nat) ^ 54 = 18014398509481984 by decide] at c1
    have p0 := pw2_pos 0
    have := pw2_lt (a := bE b) (b := 54) (by omega) (by omega)
    omega
theorem inr_self (b : Nat) (h1 : 1 ≤ b) (h2 : b < 9218868437227405312) : InR b (bM b * pw2 (bE b) * pw10 0) := by
  obtain ⟨f1, f2, f3, f4, f5, _⟩ := bM_facts b h1 h2
  have e : pw2 (bE b) = pw2 (bE b - 2) * 2 ^ 2 := pw2_step _ _ _ (by omega) (by omega)
  have hl : lowQ b < 4 * bM b := by unfold lowQ; split <;> omega
  have X := Nat.mul_pos (pw2_pos (bE b - 2)) (pw10_pos 0)
  have e1 : bM b * pw2 (bE b) * pw10 0 = (4 * bM b) * (pw2 (bE b - 2) * pw10 0) := by rw [e]; grind
  unfold InR
  rw [e1, Nat.mul_assoc (lowQ b), Nat.mul_assoc (4 * bM b + 2)]
  have a1 := Nat.mul_lt_mul_of_pos_right hl X
  have a2 := Nat.mul_lt_mul_of_pos_right (show 4 * bM b < 4 * bM b + 2 by omega) X
  exact ⟨Nat.le_of_lt a1, Nat.le_of_lt a2, fun _ => ⟨a1, a2⟩⟩
theorem inr_whole (b d k : Nat) (h1 : 1 ≤ b) (h2 : b < 9218868437227405312) (e : bM b * pw2 (bE b) = d * 10 ^ k * pw2 0) : InR b (d * pw2 0 * pw10 k) := by
  have h := inr_self b h1 h2
  rw [e] at h
  have e2 : d * 10 ^ k * pw2 0 * pw10 0 = d * pw2 0 * pw10 k := by rw [pw10_step 0 k k (by omega) (by omega)]; grind
  rw [← e2]; exact h
/-- a whole number's own word -/
theorem ex_zero (neg : Bool) (b0 b d : Nat) (h1 : 1 ≤ b) (h2 : b < 9218868437227405312) (hd : 1 ≤ d) (e : double.nearest neg d 0 = double.word neg b0) (hr : InR b (d * pw2 0 * pw10 0)) : double.word neg b0 = double.word neg b := by
  obtain ⟨r1, r2, r3⟩ := inr_up b d 0 hr
  rw [Nat.pow_zero, Nat.mul_one] at r1 r2 r3
  rw [← e]
  exact nearest_of neg b d 0 h1 h2 (by omega) (by omega) (by omega) r1 r2 r3
/-- a product or a quotient of numbers is there -/
theorem mul_some (s t : Bool) (a c : Nat) (ha : a < 9218868437227405312) (hc : c < 9218868437227405312) : ∃ r, double.mul (double.word s a) (double.word t c) = some (double.word (s ^^ t) r) ∧ r ≤ 9218868437227405312 ∧
    double.nearest (s ^^ t) (bM a * bM c) (bE a + bE c) = double.word (s ^^ t) r := by
  unfold Format.mul
  rw [read_word s a ha, read_word t c hc]
  show ∃ r, some (double.nearest (s ^^ t) (bM a * bM c) (bE a + bE c)) = _ ∧ _
  unfold Format.nearest
  split
  · exact ⟨0, rfl, by omega, rfl⟩
  · refine ⟨_, rfl, ?_, rfl⟩
    rw [inf_eq]
    exact Nat.min_le_right _ _
theorem div_some (s t : Bool) (a c : Nat) (ha : a < 9218868437227405312) (hc1 : 1 ≤ c) (hc : c < 9218868437227405312) : ∃ r, double.div (double.word s a) (double.word t c) = some r := by
  obtain ⟨f1, _⟩ := bM_facts c hc1 hc
  unfold Format.div
  rw [read_word s a ha, read_word t c hc]
  show ∃ r, Option.map double.write (if bM c = 0 then (if bM a = 0 then none else some (Datum.infinity (s ^^ t))) else some _) = some r
  rw [if_neg (by omega)]
  exact ⟨_, rfl⟩
theorem rung_big (Q K r : Nat) (hQ : 1075 ≤ Q) (hK : 4503599627370496 ≤ K) (e : min (Q * 4503599627370496 + K) 9218868437227405312 = r) : 4845873199050653696 ≤ r := by
  have hq := Nat.mul_le_mul_right 4503599627370496 hQ
  have h5 := Nat.add_le_add hq hK
  rw [← e]
  exact Nat.le_min.2 ⟨h5, by decide⟩
theorem big_rung (neg : Bool) (mag : Nat) (place : Int) (hm : mag ≠ 0) (hp0 : -1000 ≤ place) (hp1 : place ≤ 1000) (h : 9007199254740992 * pw2 0 ≤ mag * pw2 place) (r : Nat) (_hr : r ≤ 9218868437227405312) (e : double.nearest neg mag place = double.word neg r) : 4845873199050653696 ≤ r := by
  have hL1 := Nat.log2_self_le hm
  have hL2 := Nat.lt_log2_self (n := mag)
  have k : 53 ≤ place + (mag.log2 : Int) := by
    have c1 : pw2 (place + mag.log2 + 1) = pw2 place * 2 ^ (mag.log2 + 1) := pw2_step _ _ _ (by omega) (by omega)
    have c2 : pw2 (53 : Int) = pw2 0 * 2 ^ 53 := pw2_step _ _ _ (by omega) (by omega)
    have c3 : mag * pw2 place < 2 ^ (mag.log2 + 1) * pw2 place := Nat.mul_lt_mul_of_pos_right hL2 (pw2_pos _)
    rw [show (2 : Nat) ^ 53 = 9007199254740992 by decide] at c2
    have := pw2_lt (a := (53 : Int)) (b := place + (mag.log2 : Int) + 1) (by omega) (by rw [c1, c2, Nat.mul_comm (pw2 place), Nat.mul_comm (pw2 0)]; omega)
    omega
  rw [word_eq] at e
  unfold Format.nearest at e
  rw [if_neg hm] at e
  simp only [least_eq, binade_eq, inf_eq, frac_eq, word_eq] at e
  have hlast : max (place + (mag.log2 : Int) - (52 : Nat)) (-1074) = place + (mag.log2 : Int) - 52 := by omega
  rw [hlast] at e
  have hc : 4503599627370496 ≤ Toward.even.cut neg (mag <<< (place - (place + (mag.log2 : Int) - 52)).toNat) (place + (mag.log2 : Int) - 52 - place).toNat := by
    unfold Toward.cut
    simp only [Nat.shiftLeft_eq, Nat.one_mul]
    refine Nat.le_trans ?_ (Nat.le_add_right _ _)
    rcases Nat.lt_or_ge mag.log2 52 with g | g
    · rw [show (place + (mag.log2 : Int) - 52 - place).toNat = 0 by omega, Nat.zero_min, Nat.pow_zero, Nat.div_one]
      have := Nat.mul_le_mul_right (2 ^ (place - (place + (mag.log2 : Int) - 52)).toNat) hL1
      rw [← Nat.pow_add, show mag.log2 + (place - (place + (mag.log2 : Int) - 52)).toNat = 52 by omega] at this
      omega
    · rw [show (place - (place + (mag.log2 : Int) - 52)).toNat = 0 by omega, Nat.pow_zero, Nat.mul_one, show (place + (mag.log2 : Int) - 52 - place).toNat = mag.log2 - 52 by omega, Nat.min_eq_left (by omega), Nat.le_div_iff_mul_le (Nat.two_pow_pos _)]
      rw [show (4503599627370496 : Nat) = 2 ^ 52 by decide, ← Nat.pow_add, show 52 + (mag.log2 - 52) = mag.log2 by omega]
      exact hL1
  obtain ⟨K, hK⟩ : ∃ K, Toward.even.cut neg (mag <<< (place - (place + (mag.log2 : Int) - 52)).toNat) (place + (mag.log2 : Int) - 52 - place).toNat = K := ⟨_, rfl⟩
  obtain ⟨Q, hQ⟩ : ∃ Q, (place + (mag.log2 : Int) - 52 - -1074).toNat = Q := ⟨_, rfl⟩
  rw [hK] at hc e
  rw [hQ] at e
  have hQ2 : 1075 ≤ Q := by omega
  clear hK hQ hlast hL1 hL2 h k
  have e2 := Nat.add_left_cancel e
  exact rung_big Q K r hQ2 hc e2
theorem lt_big (neg : Bool) (r : Nat) (h : 4845873199050653696 ≤ r) (h2 : r ≤ 9218868437227405312) : Flt.lt 4831355200913801216 (double.word neg r) = true ∨ Flt.lt (double.word neg r) 14054727237768577024 = true := by
  have c1 : Flt.nan 4831355200913801216 = false ∧ Flt.sk 4831355200913801216 = 4831355200913801216 := by decide +kernel
  have c2 : Flt.nan 14054727237768577024 = false ∧ Flt.sk 14054727237768577024 = -4831355200913801216 := by decide +kernel
  have p63 : (2 : Nat) ^ 63 = 9223372036854775808 := by decide
  rw [word_eq]
  have hrg : Flt.rung (sgN neg + r) = r := by
    unfold Flt.rung sgN
    rw [p63]
    split <;> omega
  have hnn : Flt.nan (sgN neg + r) = false := by
    unfold Flt.nan
    rw [hrg, decide_eq_false_iff_not, show Flt.inf = 9218868437227405312 by decide]
    omega
  have hng : Flt.neg (sgN neg + r) = neg := by
    unfold Flt.neg sgN
    rw [p63]
    cases neg
    · rw [if_neg (by decide), Nat.zero_add, Nat.div_eq_of_lt (by omega)]; rfl
    · rw [if_pos rfl, show (9223372036854775808 + r) / 9223372036854775808 = 1 by omega]; rfl
  have hsk : Flt.sk (sgN neg + r) = if neg then -(r : Int) else (r : Int) := by unfold Flt.sk; rw [hng, hrg]
  unfold Flt.lt
  rw [c1.1, c1.2, c2.1, c2.2, hnn, hsk]
  cases neg
  · left
    simp only [Bool.not_false, Bool.true_and, Bool.false_eq_true, if_false, decide_eq_true_eq]
    omega
  · right
    simp only [Bool.not_false, Bool.true_and, if_true, decide_eq_true_eq]
    omega
/-- digits times a small power of ten -/
theorem ex_mul (neg : Bool) (b0 b d k : Nat) (hk : k < 23) (h1 : 1 ≤ b) (h2 : b < 9218868437227405312) (a1 : 1 ≤ b0) (a2 : b0 < 9218868437227405312) (hd : 1 ≤ d) (hd2 : d ≤ 9007199254740992) (e : bM b0 * pw2 (bE b0) = d * pw2 0) (hr : InR b (d * pw2 0 * pw10 k)) :
    double.mul (double.word neg b0) (tn k) = some (double.word neg b) := by
  obtain ⟨t1, t2, t3, t4, t5⟩ := tens_ok k hk
  obtain ⟨q1, q2⟩ := exact_bds b0 d a1 a2 hd hd2 e
  have h := mul_word neg false b0 (tn k) b d k h1 h2 a1 a2 t1 t2 e t3 (by omega) (by omega) (by omega) (by omega) hr
  rw [word_eq false] at h
  simpa [sgN] using h
theorem ex_div (neg : Bool) (b0 b d k : Nat) (hk : k < 23) (h1 : 1 ≤ b) (h2 : b < 9218868437227405312) (a1 : 1 ≤ b0) (a2 : b0 < 9218868437227405312) (hd : 1 ≤ d) (hd2 : d ≤ 9007199254740992) (e : bM b0 * pw2 (bE b0) = d * pw2 0) (hr : InR b (d * pw2 0 * pw10 (-(k : Int)))) :
    double.div (double.word neg b0) (tn k) = some (double.word neg b) := by
  obtain ⟨t1, t2, t3, t4, t5⟩ := tens_ok k hk
  obtain ⟨q1, q2⟩ := exact_bds b0 d a1 a2 hd hd2 e
  have h := div_word neg false b0 (tn k) b d k h1 h2 a1 a2 t1 t2 (by omega) e t3 (by omega) (by omega) (by omega) (by omega) hr
  rw [word_eq false] at h
  simpa [sgN] using h
/-- digits times a greater power of ten, in two steps -/
theorem ex_mul2 (neg : Bool) (b0 d k H : Nat) (hk : k < 16) (a1 : 1 ≤ b0) (a2 : b0 < 9218868437227405312) (hd : 1 ≤ d) (hd2 : d ≤ 9007199254740992) (e : bM b0 * pw2 (bE b0) = d * pw2 0) (hH : double.mul (double.word neg b0) (tn k) = some H)
    (l1 : Flt.lt 4831355200913801216 H = false) (l2 : Flt.lt H 14054727237768577024 = false) : (∃ r, double.mul H (tn 22) = some r) ∧ ∀ b r, 1 ≤ b → b < 9218868437227405312 → InR b (d * pw2 0 * pw10 ((k + 22 : Nat) : Int)) → double.mul H (tn 22) = some r → r = double.word neg b := by
  obtain ⟨t1, t2, t3, t4, t5⟩ := tens_ok k (by omega)
  obtain ⟨q1, q2⟩ := exact_bds b0 d a1 a2 hd hd2 e
  obtain ⟨r, m1, m2, m3⟩ := mul_some neg false b0 (tn k) a2 t2
  have hw : double.word false (tn k) = tn k := by rw [word_eq]; simp [sgN]
  rw [hw, Bool.xor_false] at m1
  rw [Bool.xor_false] at m3
  rw [hH] at m1
  have hHr := Option.some.inj m1
  have hval : bM b0 * bM (tn k) * pw2 (bE b0 + bE (tn k)) = d * 10 ^ k * pw2 0 := by
    have q := pw2_split (bE b0) (bE (tn k)) _ rfl (by omega) (by omega)
    have P := pw2_pos 0
    refine Nat.eq_of_mul_eq_mul_right P ?_
    rw [Nat.mul_assoc (bM b0 * bM (tn k)), ← q, show bM b0 * bM (tn k) * (pw2 (bE b0) * pw2 (bE (tn k))) = (bM b0 * pw2 (bE b0)) * (bM (tn k) * pw2 (bE (tn k))) by grind, e, t3]; grind
  have hsm : d * 10 ^ k ≤ 9007199254740992 := by
    rcases Nat.lt_or_ge 9007199254740992 (d * 10 ^ k) with g | g
    · exfalso
      obtain ⟨f1, _⟩ := bM_facts b0 a1 a2
      obtain ⟨f2, _⟩ := bM_facts (tn k) t1 t2
      have hb := big_rung neg (bM b0 * bM (tn k)) (bE b0 + bE (tn k)) (Nat.ne_of_gt (Nat.mul_pos f1 f2)) (by omega) (by omega) (by rw [hval]; exact Nat.mul_le_mul_right _ (Nat.le_of_lt g)) r m2 m3
      rcases lt_big neg r hb m2 with q | q
      · rw [← hHr, l1] at q; cases q
      · rw [← hHr, l2] at q; cases q
    · exact g
  have hd3 : 1 ≤ d * 10 ^ k := Nat.mul_pos hd (Nat.pow_pos (by decide))
  obtain ⟨b1, x1, x2, x3, x4⟩ := exact_word neg (d * 10 ^ k) hd3 hsm
  have hH2 := ex_mul neg b0 b1 d k (by omega) x1 x2 a1 a2 hd hd2 e (inr_whole b1 d k x1 x2 x4)
  rw [hH] at hH2
  have hHb := Option.some.inj hH2
  obtain ⟨u1, u2, u3, u4, u5⟩ := tens_ok 22 (by decide)
  have hw2 : double.word false (tn 22) = tn 22 := by rw [word_eq]; simp [sgN]
  refine ⟨?_, ?_⟩
  · obtain ⟨r2, n1, _, _⟩ := mul_some neg false b1 (tn 22) x2 u2
    rw [hw2] at n1
    rw [hHb]
    exact ⟨_, n1⟩
  · intro b r2 h1 h2 hr hm
    have e2 : d * pw2 0 * pw10 ((k + 22 : Nat) : Int) = (d * 10 ^ k) * pw2 0 * pw10 ((22 : Nat) : Int) := by
      rw [pw10_step ((22 : Nat) : Int) ((k + 22 : Nat) : Int) k (by omega) (by omega)]; grind
    rw [e2] at hr
    have h3 := ex_mul neg b1 b (d * 10 ^ k) 22 (by decide) h1 h2 x1 x2 hd3 hsm x4 hr
    rw [hHb] at hm
    rw [hm] at h3
    exact Option.some.inj h3
end Go.Proofs.YtnccpddjdgndcaaGreatDoor.Pf
end
