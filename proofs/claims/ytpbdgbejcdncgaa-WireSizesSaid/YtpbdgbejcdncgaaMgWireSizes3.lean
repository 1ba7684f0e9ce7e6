/- MERGED BY A PROGRAM OF MINE (mg.py) out of my own texts, in their order: WLen, RdFn, Rd, OrdBack, RdV, RdF, RdE, Wr8, Wr9, RdM, RdC, RdR. -/
import Derived.Test.YtpbdgbejcdncgaaMgWireSizes2
import Derived.Test.YtpbdgbejcdncgaaFilM
import Derived.Test.YtpbdgbejcdncgaaFilFn
import Derived.WalkLawsBesides
import Derived.WalkSpells
import Derived.Test.YtpbdgbejcdncgaaOrdKey
import Derived.Deep.DeepCutAuto
import Derived.Deep.LoopGhost
import Derived.Test.YtpbdgbejcdncgaaFil
import Derived.Deep.AppendLies
import Derived.Deep.RegionHeldLaw
import Derived.Test.YtpbdgbejcdncgaaRightA
import Derived.Defers
import Derived.Recover
import Derived.Deep.MidRow

section
/- PLAIN: how many bytes a filter and an event may have. -/
namespace Go.Proofs.Ytpbdgbejcdncgaa.Wire
open Go.Proofs.Ytpbdgbejcdncgaa.Val
theorem parts_long (l : List UInt8) : l.length + 1 = ((Sc.parts l).map (fun p => p.length + 1)).sum := by
  induction l with
  | nil => simp [Sc.parts]
  | cons b r ih =>
    rw [Sc.parts]
    split
    · rw [List.map_cons, List.sum_cons, ← ih]; simp; omega
    · cases h : Sc.parts r with
      | nil => exact absurd h (Sc.parts_ne r)
      | cons p q =>
        rw [h] at ih
        simp only [List.map_cons, List.sum_cons, List.length_cons] at ih ⊢
        omega
theorem names_long : ∀ L : List (List UInt8), L.all Sc.nameB = true → (L.map (fun p => p.length + 1)).sum ≤ 13 * L.length
  | [], _ => by simp
  | p :: L, h => by
    rw [List.all_cons, Bool.and_eq_true] at h
    have := names_long L h.2
    have h1 : p.length ≤ 12 := by
      have := h.1
      unfold Sc.nameB at this
      simp only [Bool.and_eq_true, decide_eq_true_eq] at this
      exact this.2
    rw [List.map_cons, List.sum_cons, List.length_cons]
    omega
theorem scope_short {s : List UInt8} (h : Sc.rightB s = true) : s.length ≤ 1000 := by
  unfold Sc.rightB at h
  rw [Bool.or_eq_true, Bool.and_eq_true, decide_eq_true_eq] at h
  rcases h with h | ⟨h1, h2⟩
  · have : s = [] := by simpa using h
    subst this; simp
  · have e1 := parts_long s
    have e2 := names_long _ h1
    omega
theorem flat_len {α : Type} (f : α → List UInt8) (K : Nat) : ∀ (l : List α), (∀ x ∈ l, (f x).length ≤ K) → (l.flatMap f).length ≤ l.length * K
  | [], _ => by simp
  | x :: r, h => by
    have h1 := h x (by simp)
    have h2 := flat_len f K r (fun y hy => h y (by simp [hy]))
    rw [List.flatMap_cons, List.length_append, List.length_cons, Nat.add_mul]
    omega
theorem name_short {x : List UInt8} (h : Sc.nameB x = true) : x.length ≤ 12 := by
  unfold Sc.nameB at h
  simp only [Bool.and_eq_true, decide_eq_true_eq] at h
  exact h.2
theorem fright_len {sf : List UInt8} {l : List C} (h : fRight sf l = true) (hsf : sf.length ≤ 1000) : (encFilter sf l).length ≤ 2000 := by
  unfold fRight at h
  simp only [Bool.and_eq_true, decide_eq_true_eq, List.all_eq_true] at h
  obtain ⟨hc, -, hl⟩ := h
  have hk := flat_len encCond 63 l (fun c hcl => by
    have h1 := hc c hcl
    unfold cRight at h1
    simp only [Bool.and_eq_true, decide_eq_true_eq] at h1
    have h2 := name_short h1.1.1.1
    have h3 := h1.2
    unfold vRight at h3
    simp only [Bool.and_eq_true, decide_eq_true_eq] at h3
    have h4 := h3.2
    have h5 := encVal_len c.val.kind c.val.int c.val.num c.val.text c.val.yes
    unfold encCond
    simp only [List.length_append, encText_len, List.length_singleton]
    omega)
  unfold encFilter encConds
  simp only [List.length_append, encText_len, List.length_singleton]
  omega
theorem sc_short {sf : List UInt8} {l : List C} (h : fRight sf l = true) : sf.length ≤ 1000 := by
  unfold fRight at h
  simp only [Bool.and_eq_true] at h
  exact scope_short h.2.1
theorem evl_len (s : List UInt8) (l : List A) : (encEvent (evS s) (evL l)).length ≤ 3000 := by
  have hs : (evS s).length ≤ 1000 := by
    unfold evS
    split
    · exact scope_short (by assumption)
    · simp
  have h8 : (evL l).length ≤ 8 := by unfold evL; rw [List.length_take]; omega
  have hk := flat_len encAttr 62 (evL l) (fun a ha => by
    have h1 : okA a = true := by
      unfold evL at ha
      exact (List.mem_filter.1 (List.mem_of_mem_take ha)).2
    unfold okA rightL at h1
    simp [rightN, rOk] at h1
    have h2 := name_short h1.1.1
    have h3 := h1.1.2
    unfold vRight at h3
    simp only [Bool.and_eq_true, decide_eq_true_eq] at h3
    have h4 := h3.2
    have h5 := encVal_len a.val.kind a.val.int a.val.num a.val.text a.val.yes
    unfold encAttr
    simp only [List.length_append, encText_len]
    omega)
  unfold encEvent encAttrs
  simp only [List.length_append, encText_len, List.length_singleton]
  omega
theorem rule_len (r : Pol.R) (cs : List C) : (encRule r cs).length = 6 + r.k.who.length + r.nm.length + (encFilter r.sc cs).length := by
  unfold encRule
  simp only [List.length_append, encText_len, List.length_cons, List.length_nil]
  omega
end Go.Proofs.Ytpbdgbejcdncgaa.Wire
end

section
/- WHAT A READER TAKES: plain functions from bytes to values, and that what is taken are the value's bytes. No program in sight. -/
namespace Go.Proofs.Ytpbdgbejcdncgaa.Wire
open Go.Proofs.Ytpbdgbejcdncgaa.Val
def decText : List UInt8 → Option (List UInt8 × List UInt8)
  | [] => none
  | c :: t => if t.length < c.toNat then none else some (t.take c.toNat, t.drop c.toNat)
def longOf (s : List UInt8) : Nat := s.foldl (fun x c => x * 256 + c.toNat) 0
def decLong (s : List UInt8) : Option (Nat × List UInt8) := if s.length < 8 then none else some (longOf (s.take 8), s.drop 8)
def i64of (x : Nat) : Int := IntKind.i64.wrap (x : Int)
/-- many of a kind, one behind the other -/
def decMany {α : Type} (f : List UInt8 → Option (α × List UInt8)) : Nat → List UInt8 → Option (List α × List UInt8)
  | 0, s => some ([], s)
  | n + 1, s => match f s with
    | none => none
    | some (a, t) => match decMany f n t with
      | none => none
      | some (l, r) => some (a :: l, r)
theorem decText_enc {s t r : List UInt8} (h : decText s = some (t, r)) : s = encText t ++ r ∧ t.length < 256 := by
  cases s with
  | nil => cases h
  | cons c u =>
    have h' : (if u.length < c.toNat then none else some (u.take c.toNat, u.drop c.toNat)) = some (t, r) := h
    by_cases hlt : u.length < c.toNat
    · rw [if_pos hlt] at h'; cases h'
    · rw [if_neg hlt] at h'
      injection h' with h
      injection h with h1 h2
      subst h1; subst h2
      have hc := c.toNat_lt
      have hl : (u.take c.toNat).length = c.toNat := by rw [List.length_take]; omega
      refine ⟨?_, by rw [hl]; exact hc⟩
      unfold encText
      rw [hl, byteOf_nat, List.cons_append, List.take_append_drop]
theorem longOf_snoc (s : List UInt8) (c : UInt8) : longOf (s ++ [c]) = longOf s * 256 + c.toNat := by unfold longOf; rw [List.foldl_append]; rfl
theorem longAt_eq {x q : Nat} {c : UInt8} (h : x / 2 ^ q % 256 = c.toNat) : longAt x q = c := by
  unfold longAt
  rw [h]
  exact UInt8.ofNat_toNat
theorem long_enc8 (a b c d e f g h : UInt8) : encLong (longOf [a, b, c, d, e, f, g, h]) = [a, b, c, d, e, f, g, h] ∧ longOf [a, b, c, d, e, f, g, h] < 18446744073709551616 := by
  have ha := a.toNat_lt; have hb := b.toNat_lt; have hc := c.toNat_lt; have hd := d.toNat_lt
  have he := e.toNat_lt; have hf := f.toNat_lt; have hg := g.toNat_lt; have hh := h.toNat_lt
  have hx : longOf [a, b, c, d, e, f, g, h] = (((((((0 * 256 + a.toNat) * 256 + b.toNat) * 256 + c.toNat) * 256 + d.toNat) * 256 + e.toNat) * 256 + f.toNat) * 256 + g.toNat) * 256 + h.toNat := rfl
  generalize longOf [a, b, c, d, e, f, g, h] = x at *
  refine ⟨?_, by omega⟩
  unfold encLong
  rw [longAt_eq (q := 56) (c := a) (by simp only [Nat.reducePow]; omega), longAt_eq (q := 48) (c := b) (by simp only [Nat.reducePow]; omega), longAt_eq (q := 40) (c := c) (by simp only [Nat.reducePow]; omega), longAt_eq (q := 32) (c := d) (by simp only [Nat.reducePow]; omega), longAt_eq (q := 24) (c := e) (by simp only [Nat.reducePow]; omega), longAt_eq (q := 16) (c := f) (by simp only [Nat.reducePow]; omega), longAt_eq (q := 8) (c := g) (by simp only [Nat.reducePow]; omega), longAt_eq (q := 0) (c := h) (by simp only [Nat.reducePow]; omega)]
theorem decLong_enc {s r : List UInt8} {x : Nat} (h : decLong s = some (x, r)) : s = encLong x ++ r ∧ x < 18446744073709551616 := by
  unfold decLong at h
  split at h
  · cases h
  · rename_i hlt
    injection h with h
    injection h with h1 h2
    subst h1; subst h2
    match s, hlt with
    | a :: b :: c :: d :: e :: f :: g :: hh :: t, _ =>
      obtain ⟨h1, h2⟩ := long_enc8 a b c d e f g hh
      exact ⟨by show _ = encLong (longOf [a, b, c, d, e, f, g, hh]) ++ t; rw [h1]; rfl, h2⟩
    | [], hlt => simp at hlt
    | [_], hlt => simp at hlt
    | [_, _], hlt => simp at hlt
    | [_, _, _], hlt => simp at hlt
    | [_, _, _, _], hlt => simp at hlt
    | [_, _, _, _, _], hlt => simp at hlt
    | [_, _, _, _, _, _], hlt => simp at hlt
    | [_, _, _, _, _, _, _], hlt => simp at hlt
theorem u64_i64 {x : Nat} (h : x < 18446744073709551616) : u64of (i64of x) = x := by
  unfold u64of i64of
  simp only [IntKind.wrap, IntKind.bits, IntKind.signed]
  simp
  omega
theorem decMany_enc {α : Type} {f : List UInt8 → Option (α × List UInt8)} {g : α → List UInt8} (hf : ∀ s a t, f s = some (a, t) → s = g a ++ t) : ∀ (n : Nat) (s : List UInt8) (l : List α) (r : List UInt8), decMany f n s = some (l, r) → s = l.flatMap g ++ r ∧ l.length = n
  | 0, s, l, r, h => by
    unfold decMany at h
    injection h with h; injection h with h1 h2; subst h1; subst h2
    exact ⟨rfl, rfl⟩
  | n + 1, s, l, r, h => by
    unfold decMany at h
    cases h1 : f s with
    | none => rw [h1] at h; cases h
    | some p =>
      obtain ⟨a, t⟩ := p
      rw [h1] at h
      dsimp only at h
      cases h2 : decMany f n t with
      | none => rw [h2] at h; cases h
      | some q =>
        obtain ⟨l2, r2⟩ := q
        rw [h2] at h
        injection h with h; injection h with h3 h4; subst h3; subst h4
        obtain ⟨e1, e2⟩ := decMany_enc hf n t l2 r2 h2
        exact ⟨by rw [hf _ _ _ h1, e1, List.flatMap_cons, List.append_assoc], by simp [e2]⟩
end Go.Proofs.Ytpbdgbejcdncgaa.Wire
end

section
/- A READER OF BYTES: its box; Byte, Text, Long. -/
namespace Go.Proofs.Ytpbdgbejcdncgaa.Wire
open Go.RowKit Flt Go.Proofs.Ytpbdgbejcdncgaa.Val Go.Lib
variable {B : Nat}
attribute [local go_sem] run_store_flt
/-- what is thrown where bytes end too early, or tell nothing -/
abbrev shortP : Ending := .panicked [{ v := .iface 83 (.agg #[]), recovered := false }]
/-- a reader at box b that has the bytes s ahead -/
structure RdAt (W : World) (b B : Nat) (s : List UInt8) : Prop where
  ex : ∃ a0 cap, W.cell? ⟨b, 0, none⟩ = some (.slice a0 s.length cap) ∧ s.length ≤ cap ∧ cap ≤ maxLen ∧ BytesAt W a0 s ∧ (a0 = none → cap = 0) ∧ (s ≠ [] → ∀ a, a0 = some a → a.block < B)
  fz : W.frozen? ⟨b, 0, none⟩ = false
  hB : B ≤ b
/-- what a read leaves alone: all blocks but the reader's box -/
structure RK (b : Nat) (W W2 : World) : Prop where
  os : W2.os = W.os
  tape : W2.tape = W.tape
  output : W2.output = W.output
  size : W.heap.size ≤ W2.heap.size
  block : ∀ p, p < W.heap.size → p ≠ b → W2.heap[p]? = W.heap[p]?
theorem RK.refl (b : Nat) (W : World) : RK b W W := ⟨rfl, rfl, rfl, Nat.le_refl _, fun _ _ _ => rfl⟩
theorem RK.trans {b : Nat} {W W2 W3 : World} (h : RK b W W2) (k : RK b W2 W3) : RK b W W3 :=
  ⟨k.os.trans h.os, k.tape.trans h.tape, k.output.trans h.output, Nat.le_trans h.size k.size, fun p hp hne => (k.block p (Nat.lt_of_lt_of_le hp h.size) hne).trans (h.block p hp hne)⟩
theorem rk_below {b : Nat} {W W2 : World} (h : Below W.heap.size W W2) : RK b W W2 := ⟨h.os, h.tape, h.output, h.size, fun p hp _ => h.block p hp⟩
theorem RK.below {b B : Nat} {W W2 : World} (h : RK b W W2) (hB : B ≤ b) (hs : B ≤ W.heap.size) : Below B W W2 := ⟨h.os, h.tape, h.output, h.size, fun p hp => h.block p (by omega) (by omega)⟩
theorem RK.cell {b : Nat} {W W2 : World} (h : RK b W W2) {p : Addr} (h1 : p.block < W.heap.size) (h2 : p.block ≠ b) : W2.cell? p = W.cell? p := World.cell?_of_block (w := W) (h.block _ h1 h2)
theorem RK.frozen {b : Nat} {W W2 : World} (h : RK b W W2) {p : Addr} (h1 : p.block < W.heap.size) (h2 : p.block ≠ b) : W2.frozen? p = W.frozen? p := World.frozen?_of_block (w := W) (h.block _ h1 h2)
theorem RdAt.lt {W : World} {b : Nat} {s : List UInt8} (h : RdAt W b B s) : b < W.heap.size := by
  obtain ⟨⟨a0, cap, hc, _⟩, _, _⟩ := h
  exact World.block_lt_of_cell? _ _ hc
theorem RdAt.below {W W2 : World} {b : Nat} {s : List UInt8} (h : RdAt W b B s) (hb : Below W.heap.size W W2) : RdAt W2 b B s := by
  have hlt := h.lt
  obtain ⟨⟨a0, cap, hc, h1, h2, h3, h4, h5⟩, hf, hB⟩ := h
  exact ⟨⟨a0, cap, (hb.cell (p := ⟨b, 0, none⟩) hlt).trans hc, h1, h2, h3.below hb, h4, h5⟩, (hb.frozen (p := ⟨b, 0, none⟩) hlt).trans hf, hB⟩
/-- what is done above the reader leaves it alone -/
theorem RdAt.low {W W2 : World} {b : Nat} {s : List UInt8} (h : RdAt W b B s) (hb : Below (b + 1) W W2) : RdAt W2 b B s := by
  have hlt := h.lt
  obtain ⟨⟨a0, cap, hc, h1, h2, h3, h4, h5⟩, hf, hB⟩ := h
  refine ⟨⟨a0, cap, (hb.cell (p := ⟨b, 0, none⟩) (Nat.lt_succ_self b)).trans hc, h1, h2, fun i hi => ?_, h4, h5⟩, (hb.frozen (p := ⟨b, 0, none⟩) (Nat.lt_succ_self b)).trans hf, hB⟩
  obtain ⟨a, e, h6⟩ := h3 i hi
  have h7 := h5 (fun e0 => by rw [e0] at hi; simp at hi) a e
  have hab : (a.add i).block = a.block := by unfold Addr.add; split <;> rfl
  exact ⟨a, e, (hb.cell (by rw [hab]; omega)).trans h6⟩
theorem rk_set (b : Nat) (W : World) (v : Value) : RK b W (W.setCell ⟨b, 0, none⟩ v) := ⟨rfl, rfl, rfl, by simp, fun p _ hne => Below.heap_setCell _ _ _ _ hne⟩
/-- behind a step ahead -/
theorem rd_step {W : World} {b : Nat} {a : Addr} {s : List UInt8} {cap k : Nat} (hc : W.cell? ⟨b, 0, none⟩ = some (.slice (some a) s.length cap)) (hz : W.frozen? ⟨b, 0, none⟩ = false) (h1 : s.length ≤ cap) (h2 : cap ≤ maxLen) (h3 : BytesAt W (some a) s) (h5 : s ≠ [] → a.block < B) (hB : B ≤ b) (hk : k ≤ s.length) :
    RdAt (W.setCell ⟨b, 0, none⟩ (.slice (some (a.add k)) (s.length - k) (cap - k))) b B (s.drop k) := by
  have hab : ∀ i, (a.add i).block = a.block := fun i => by unfold Addr.add; split <;> rfl
  have hadd : ∀ i, (a.add k).add i = a.add (k + i) := fun i => Addr.add_add a k i
  refine ⟨⟨some (a.add k), cap - k, ?_, by rw [List.length_drop]; omega, by omega, fun i hi => ⟨_, rfl, ?_⟩, (fun e => by cases e), fun hne a2 e => by injection e with e; rw [← e, hab]; exact h5 (fun e0 => hne (by rw [e0]; simp))⟩, by simpa using hz, hB⟩
  · rw [List.length_drop]; exact World.cell?_setCell_same _ _ _ hc
  · rw [List.length_drop] at hi
    obtain ⟨a2, e2, h6⟩ := h3 (k + i) (by omega)
    injection e2 with e2
    subst e2
    rw [hadd, World.cell?_setCell_other _ _ _ _ (by intro e; have := congrArg Addr.block e; rw [hab] at this; have h7 := h5 (fun e0 => by rw [e0] at hi; simp at hi); rw [← this] at h7; exact Nat.lt_irrefl _ (Nat.lt_of_lt_of_le h7 hB)), h6, List.getElem_drop]
/-- behind the last step -/
theorem rd_end {W : World} {b : Nat} {a : Addr} {v : Value} (hc : W.cell? ⟨b, 0, none⟩ = some v) (hz : W.frozen? ⟨b, 0, none⟩ = false) (hB : B ≤ b) :
    RdAt (W.setCell ⟨b, 0, none⟩ (.slice (some a) 0 0)) b B [] :=
  ⟨⟨some a, 0, World.cell?_setCell_same _ _ _ hc, Nat.le_refl _, Nat.zero_le _, fun i hi => absurd hi (Nat.not_lt_zero _), (fun e => by cases e), fun hne => absurd rfl hne⟩, by simpa using hz, hB⟩
/-- what a read tells: what it took, and what is left; or nothing -/
def Took {α : Type} (B b : Nat) (w : World) (d : Option (α × List UInt8)) (ret : α → Value) (e : Ending) (w' : World) : Prop :=
  (∃ a t, d = some (a, t) ∧ e = .returned (ret a) ∧ RdAt w' b B t ∧ RK b w w') ∨ (d = none ∧ e = shortP ∧ RK b w w')
theorem took_yes {α : Type} {b : Nat} {w w' : World} {d : Option (α × List UInt8)} {ret : α → Value} {e : Ending} (a : α) (t : List UInt8) (h1 : d = some (a, t)) (h2 : e = .returned (ret a)) (h3 : RdAt w' b B t) (h4 : RK b w w') : Took B b w d ret e w' := .inl ⟨a, t, h1, h2, h3, h4⟩
theorem took_no {α : Type} {b : Nat} {w w' : World} {d : Option (α × List UInt8)} {ret : α → Value} {e : Ending} (h1 : d = none) (h2 : e = shortP) (h4 : RK b w w') : Took B b w d ret e w' := .inr ⟨h1, h2, h4⟩
def decByte : List UInt8 → Option (UInt8 × List UInt8)
  | [] => none
  | c :: t => some (c, t)
set_option maxRecDepth 20000 in
set_option maxHeartbeats 4000000 in
theorem rbyte_any (b : Nat) (s : List UInt8) (w : World) (h : RdAt w b B s) :
    Calls Try.prog 21 #[.pointer (some ⟨b, 0, none⟩)] w fun e w' => Took B b w (decByte s) (fun c => .int .i64 (c.toNat : Int)) e w' := by
  obtain ⟨⟨a0, cap, hc, h1, h2, h3, h4, h5⟩, hz, hB⟩ := h
  cases s with
  | nil =>
    clear h3
    go_enter Try.func21, Try.ntmps21
    go_wp2_with fail
    exact ⟨rfl, took_no rfl rfl (RK.refl _ _)⟩
  | cons c t =>
    obtain ⟨a, rfl, ha⟩ := h3 0 (by simp)
    have hst := rd_step hc hz h1 h2 h3 (fun hne => h5 hne a rfl) hB (k := 1) (by simp)
    have hen := rd_end (a := a) hc hz hB
    have ha0 : w.cell? a = some (.int .u8 (c.toNat : Int)) := by
      have : a.add 0 = a := by simp [Addr.add]
      rw [← this]; exact ha
    have hlt : b < w.heap.size := World.block_lt_of_cell? _ _ hc
    have hc8 := c.toNat_lt
    have HST := Lib.hid hst; have HEN := Lib.hid hen; clear hst h3 h4 h5 ha hen
    have j1 : (1 : Int) ≤ (cap : Int) := by simp at h1; omega
    rw [List.length_cons] at hc h1
    go_enter Try.func21, Try.ntmps21
    go_wp2_with fail
    all_goals
      go_ret
      refine took_yes c t rfl rfl ?_ (rk_set _ _ _)
    · have ht : t = [] := List.eq_nil_of_length_eq_zero (by omega)
      subst ht
      exact HEN.out
    · exact HST.out
set_option maxRecDepth 20000 in
set_option maxHeartbeats 4000000 in
theorem rtext_any (b : Nat) (s : List UInt8) (w : World) (h : RdAt w b B s) :
    Calls Try.prog 24 #[.pointer (some ⟨b, 0, none⟩)] w fun e w' => Took B b w (decText s) (fun t => .string ⟨t.toArray⟩) e w' := by
  have HH := Lib.hid h; clear h
  go_enter Try.func24, Try.ntmps24
  go_upto_region 2 with ((go_at_call 21; refine (rbyte_any b s w HH.out).mono ?_; rintro e w1 (⟨c, t, hd, rfl, hr, hk⟩ | ⟨hd, rfl, hk⟩)))
  · obtain ⟨⟨a0, cap, hc, h1, h2, h3, h4, h5⟩, hz, hB⟩ := hr
    have hs : s = c :: t := by
      cases s with
      | nil => cases hd
      | cons x y => injection hd with hd; injection hd with e1 e2; rw [e1, e2]
    have hlt : b < w1.heap.size := World.block_lt_of_cell? _ _ hc
    by_cases hn : t.length < c.toNat
    · have i1 : (t.length : Int) < (c.toNat : Int) := by omega
      have HD := Lib.hid (show decText s = none from by rw [hs]; show (if t.length < c.toNat then _ else _) = _; rw [if_pos hn])
      clear h3 h4 h5 hd hs
      go_wp2_with fail
      exact ⟨rfl, took_no HD.out rfl hk⟩
    · have i1 : ¬ (t.length : Int) < (c.toNat : Int) := by omega
      have i2 : (c.toNat : Int) ≤ (t.length : Int) := by omega
      have i3 : (c.toNat : Int) ≤ (cap : Int) := by omega
      have i4 : (0 : Int) ≤ (c.toNat : Int) := by omega
      have HD := Lib.hid (show decText s = some (t.take c.toNat, t.drop c.toNat) from by rw [hs]; show (if t.length < c.toNat then _ else _) = _; rw [if_neg hn])
      cases a0 with
      | none =>
        obtain rfl := h4 rfl
        have ht : t = [] := List.eq_nil_of_length_eq_zero (by omega)
        subst ht
        have hc0 : c.toNat = 0 := by simpa using hn
        have hen : RdAt (w1.setCell ⟨b, 0, none⟩ (.slice none 0 0)) b B [] := ⟨⟨none, 0, World.cell?_setCell_same _ _ _ hc, Nat.le_refl _, Nat.zero_le _, fun i hi => absurd hi (Nat.not_lt_zero _), (fun _ => rfl), fun hne => absurd rfl hne⟩, by simpa using hz, hB⟩
        rw [hc0] at HD ⊢
        have HEN := Lib.hid hen
        have hcv0 : ∀ W, (convert 22 9 (.slice none 0 0)).run Try.prog W = .ok (.string ⟨#[]⟩) W := fun W => by kernel_rfl
        clear h3 h4 h5 hd hs hen i1 i2 i3 i4 hn
        go_wp2_with fail
        go_ret
        exact took_yes [] [] HD.out rfl HEN.out (hk.trans (rk_set _ _ _))
      | some a =>
        have hcv : (convert 22 9 (.slice (some a) c.toNat cap)).run Try.prog w1 = .ok (.string ⟨(t.take c.toNat).toArray⟩) w1 := by
          have hl : (t.take c.toNat).length = c.toNat := by rw [List.length_take]; omega
          have := run_convert_bytes_back w1 22 9 5 a cap (t.take c.toNat) Try.underlying22 Try.underlying5 Try.underlying9 (fun j hj => by
            obtain ⟨a2, e2, h6⟩ := h3 j (by omega)
            injection e2 with e2
            subst e2
            rw [h6, List.getElem_take])
          rw [hl] at this
          exact this
        have hst := rd_step hc hz h1 h2 h3 (fun hne => h5 hne a rfl) hB (k := c.toNat) (by omega)
        have hen := rd_end (a := a) hc hz hB
        have HST := Lib.hid hst; have HEN := Lib.hid hen; have HCV := Lib.hid hcv
        clear hst hen h3 h4 h5 hd hs
        go_wp2_with fail
        all_goals
          go_ret
          refine took_yes _ _ HD.out rfl ?_ (hk.trans (rk_set _ _ _))
        · have e1 : t.length = c.toNat := by omega
          rw [e1, Nat.sub_self, List.drop_of_length_le (by omega)]
          exact HEN.out
        · exact HST.out
  · exact ⟨rfl, took_no (by cases s with | nil => rfl | cons x y => cases hd) rfl hk⟩
theorem fold_lt (s : List UInt8) : ∀ acc, s.foldl (fun x (c : UInt8) => x * 256 + c.toNat) acc < (acc + 1) * 256 ^ s.length := by
  induction s with
  | nil => intro acc; simp
  | cons c t ih =>
    intro acc
    have h := ih (acc * 256 + c.toNat)
    have hc := c.toNat_lt
    rw [List.foldl_cons, List.length_cons, Nat.pow_succ]
    have h2 : (acc * 256 + c.toNat + 1) * 256 ^ t.length ≤ ((acc + 1) * 256) * 256 ^ t.length := Nat.mul_le_mul_right _ (by omega)
    have h3 : (acc + 1) * (256 ^ t.length * 256) = ((acc + 1) * 256) * 256 ^ t.length := by rw [Nat.mul_comm (256 ^ t.length) 256, Nat.mul_assoc]
    omega
theorem longOf_lt {s : List UInt8} (h : s.length ≤ 7) : longOf s < 72057594037927936 := by
  have h1 := fold_lt s 0
  have h2 : 256 ^ s.length ≤ 256 ^ 7 := Nat.pow_le_pow_right (by decide) h
  have h3 : (256 : Nat) ^ 7 = 72057594037927936 := by decide
  unfold longOf
  omega
theorem or_byte {X c : Nat} (hX : X < 72057594037927936) (hc : c < 256) : bits .or .u64 (IntKind.u64.wrap ((X : Int) * 256)) (IntKind.u64.wrap (c : Int)) = ((X * 256 + c : Nat) : Int) := by
  have e1 : IntKind.u64.wrap ((X : Int) * 256) = ((X * 256 : Nat) : Int) := by
    simp only [IntKind.wrap, IntKind.bits, IntKind.signed]; simp; omega
  have e2 : IntKind.u64.wrap (c : Int) = (c : Int) := by
    simp only [IntKind.wrap, IntKind.bits, IntKind.signed]; simp; omega
  rw [e1, e2]
  show IntKind.u64.wrap ((BitVec.ofInt 64 ((X * 256 : Nat) : Int) ||| BitVec.ofInt 64 (c : Int)).toNat : Int) = _
  rw [BitVec.toNat_or, BitVec.ofInt_natCast, BitVec.ofInt_natCast, BitVec.toNat_ofNat, BitVec.toNat_ofNat, Nat.mod_eq_of_lt (by omega), Nat.mod_eq_of_lt (by omega)]
  have h := Nat.shiftLeft_add_eq_or_of_lt (i := 8) (b := c) (by simpa using hc) X
  rw [Nat.shiftLeft_eq] at h
  rw [show (2 : Nat) ^ 8 = 256 from rfl] at h
  rw [← h]
  simp only [IntKind.wrap, IntKind.bits, IntKind.signed]; simp; omega
theorem drop_facts {s t : List UInt8} {k : Nat} {c : UInt8} (h : decByte (s.drop k) = some (c, t)) : k < s.length ∧ s.take (k + 1) = s.take k ++ [c] ∧ s.drop (k + 1) = t := by
  have hd : s.drop k = c :: t := by
    cases hs : s.drop k with
    | nil => rw [hs] at h; cases h
    | cons x y => rw [hs] at h; injection h with h; injection h with e1 e2; rw [e1, e2]
  have hl : k < s.length := by
    have := congrArg List.length hd
    rw [List.length_drop, List.length_cons] at this
    omega
  refine ⟨hl, ?_, ?_⟩
  · rw [List.take_add_one]
    congr 1
    have : s[k]? = (s.drop k)[0]? := by rw [List.getElem?_drop]; simp
    rw [this, hd]; rfl
  · rw [← List.drop_drop, hd]; rfl
set_option maxRecDepth 20000 in
set_option maxHeartbeats 4000000 in
theorem rlong_any (b : Nat) (s : List UInt8) (w : World) (h : RdAt w b B s) :
    Calls Try.prog 25 #[.pointer (some ⟨b, 0, none⟩)] w fun e w' => Took B b w (decLong s) (fun x => .int .u64 (x : Int)) e w' := by
  have HH := Lib.hid h; clear h
  go_enter Try.func25, Try.ntmps25
  go_wp2_with fail
  go_loopw [3, 4] (fun vx vi wr => ∃ k : Nat, k ≤ 8 ∧ k ≤ s.length ∧ vi = .int .i64 k ∧ vx = .int .u64 (longOf (s.take k)) ∧ RdAt wr b B (s.drop k) ∧ RK b w wr) (fun _ vi _ => 8 - (RowKit.intOf vi).toNat)
  case atStart => exact ⟨0, by omega, by omega, rfl, rfl, HH.out, RK.refl _ _⟩
  case round =>
    obtain ⟨k, hk, hks, rfl, rfl, hrd, hrk⟩ := hrel
    by_cases hlt : k < 8
    · have i1 : (k : Int) < 8 := by omega
      have HRD := Lib.hid hrd; have HRK := Lib.hid hrk; clear hrd hrk
      obtain ⟨X, hX⟩ : ∃ X, longOf (s.take k) = X := ⟨_, rfl⟩
      rw [hX]
      go_wp2_with (first | (go_at_call 21; refine (rbyte_any b _ wr HRD.out).mono ?_; rintro e w1 (⟨c, t, hd, rfl, hr, hk⟩ | ⟨hd, rfl, hk⟩)) | fail)
      · obtain ⟨f1, f2, f3⟩ := drop_facts hd
        have hX7 : X < 72057594037927936 := by rw [← hX]; exact longOf_lt (by rw [List.length_take]; omega)
        refine ⟨⟨k + 1, by omega, by omega, by go_num, ?_, by rw [f3]; exact hr, HRK.out.trans hk⟩, by simp [RowKit.intOf]; go_num⟩
        rw [or_byte hX7 c.toNat_lt, f2, longOf_snoc, hX]
      · refine ⟨rfl, took_no ?_ rfl (HRK.out.trans hk)⟩
        have hl : s.length ≤ k := by
          cases hs : s.drop k with
          | nil => exact List.drop_eq_nil_iff.1 hs
          | cons x y => rw [hs] at hd; cases hd
        unfold decLong
        rw [if_pos (by omega)]
    · have i1 : ¬ (k : Int) < 8 := by omega
      obtain rfl : k = 8 := by omega
      go_wp2_with fail
      go_ret
      exact took_yes _ _ (by unfold decLong; rw [if_neg (by omega)]) rfl hrd hrk
end Go.Proofs.Ytpbdgbejcdncgaa.Wire
end

section
/- THE WALKS OF package order: Back. -/
namespace Go.Proofs.Ytpbdgbejcdncgaa.Ord
open Go.RowKit Flt
attribute [local go_sem] ford_eq ford_lt ford_gt
theorem none_most (k : Nat) : ((k : Int) == 18446744073709551615) = decide (k = most) := by
  rw [Bool.eq_iff_iff]; unfold most; simp; omega
theorem bne_cast (a b : Nat) : ((a : Int) != (b : Int)) = (a != b) := by rw [bne, bne, beq_cast]
set_option maxHeartbeats 400000 in
theorem back_any (k : Nat) (hk : k < 18446744073709551616) (w : World) :
    Calls Try.prog 48 #[.int .u64 k] w fun e w' => e = .returned (.tuple #[.float .f64 (back k).1, .bool (back k).2]) ∧ w = w' := by
  have hc := frombits_call
  have hs : IntKind.u64.signed = false := by decide
  have hbl := backB_lt hk
  have hx := umax_xor k hk
  have ho := top_off k hk
  have h1 := ford_ne_self (backB k)
  have hB : backB k = if k / 9223372036854775808 = 0 then most - k else k % 9223372036854775808 := rfl
  have hR : back k = if k = most then (nan0, true) else if nan (backB k) || key (backB k) != k then (0, false) else (backB k, true) := rfl
  have hq := none_most k
  have hne := bne_cast (key (backB k)) k
  by_cases h : k / 9223372036854775808 = 0
  · have hz : ((k : Int) / 9223372036854775808 == 0) = true := by rw [beq_iff_eq]; omega
    rw [if_pos h] at hB
    rw [← hB] at hx
    clear hB h hk
    by_cases hm : k = most
    · rw [if_pos hm] at hR
      rw [decide_eq_true hm] at hq
      clear hm hne h1
      rw [hR]; clear hR
      go_enter Try.func48, Try.ntmps48
      go_wp2_with (go_at_call 59; refine (nan_any _).mono ?_; rintro e w' ⟨rfl, rfl⟩)
      go_ret2
      exact ⟨rfl, rfl⟩
    · rw [if_neg hm] at hR
      rw [decide_eq_false hm] at hq
      clear hm
      cases hn : nan (backB k)
      · rw [hn] at h1 hR
        cases hkk : key (backB k) != k
        · rw [hkk] at hR hne; clear hn hkk
          rw [show back k = (backB k, true) from hR]; clear hR
          go_enter Try.func48, Try.ntmps48
          go_wp2_with (go_at_call 46; refine (key_any _ hbl _).mono ?_; rintro e w' ⟨rfl, rfl⟩)
          go_ret2
          exact ⟨rfl, rfl⟩
        · rw [hkk] at hR hne; clear hn hkk
          rw [show back k = (0, false) from hR]; clear hR
          go_enter Try.func48, Try.ntmps48
          go_wp2_with (go_at_call 46; refine (key_any _ hbl _).mono ?_; rintro e w' ⟨rfl, rfl⟩)
          go_ret2
          exact ⟨rfl, rfl⟩
      · rw [hn] at h1 hR; clear hn hne
        rw [show back k = (0, false) from hR]; clear hR
        go_enter Try.func48, Try.ntmps48
        go_wp2
        go_ret2
        exact ⟨rfl, rfl⟩
  · have hz : ((k : Int) / 9223372036854775808 == 0) = false := by rw [beq_eq_false_iff_ne]; omega
    rw [if_neg h] at hB
    rw [← hB] at ho
    clear hB h hk hx
    by_cases hm : k = most
    · rw [if_pos hm] at hR
      rw [decide_eq_true hm] at hq
      clear hm hne h1
      rw [hR]; clear hR
      go_enter Try.func48, Try.ntmps48
      go_wp2_with (go_at_call 59; refine (nan_any _).mono ?_; rintro e w' ⟨rfl, rfl⟩)
      go_ret2
      exact ⟨rfl, rfl⟩
    · rw [if_neg hm] at hR
      rw [decide_eq_false hm] at hq
      clear hm
      cases hn : nan (backB k)
      · rw [hn] at h1 hR
        cases hkk : key (backB k) != k
        · rw [hkk] at hR hne; clear hn hkk
          rw [show back k = (backB k, true) from hR]; clear hR
          go_enter Try.func48, Try.ntmps48
          go_wp2_with (go_at_call 46; refine (key_any _ hbl _).mono ?_; rintro e w' ⟨rfl, rfl⟩)
          go_ret2
          exact ⟨rfl, rfl⟩
        · rw [hkk] at hR hne; clear hn hkk
          rw [show back k = (0, false) from hR]; clear hR
          go_enter Try.func48, Try.ntmps48
          go_wp2_with (go_at_call 46; refine (key_any _ hbl _).mono ?_; rintro e w' ⟨rfl, rfl⟩)
          go_ret2
          exact ⟨rfl, rfl⟩
      · rw [hn] at h1 hR; clear hn hne
        rw [show back k = (0, false) from hR]; clear hR
        go_enter Try.func48, Try.ntmps48
        go_wp2
        go_ret2
        exact ⟨rfl, rfl⟩
end Go.Proofs.Ytpbdgbejcdncgaa.Ord
end

section
/- A READER OF BYTES: a value. -/
namespace Go.Proofs.Ytpbdgbejcdncgaa.Wire
open Go.RowKit Flt Go.Proofs.Ytpbdgbejcdncgaa.Val Go.Lib
variable {B : Nat}
attribute [local go_sem] run_store_flt
def decVal : List UInt8 → Option (V × List UInt8)
  | [] => none
  | c :: t =>
    if c = 0 then match decLong t with
      | none => none
      | some (x, r) => some (⟨0, i64of x, 0, [], false⟩, r)
    else if c = 1 then match decLong t with
      | none => none
      | some (x, r) => if (Ord.back x).2 then some (⟨1, 0, (Ord.back x).1, [], false⟩, r) else none
    else if c = 2 then match decText t with
      | none => none
      | some (u, r) => if u.length ≤ 40 then some (⟨2, 0, 0, u, false⟩, r) else none
    else if c = 3 then match t with
      | [] => none
      | d :: r => if d.toNat ≤ 1 then some (⟨3, 0, 0, [], d == 1⟩, r) else none
    else none
/-- five cells of a box -/
structure Box5 (W : World) (p : Nat) (v0 v1 v2 v3 v4 : Value) : Prop where
  c0 : W.cell? ⟨p, 0, none⟩ = some v0
  c1 : W.cell? ⟨p, 1, none⟩ = some v1
  c2 : W.cell? ⟨p, 2, none⟩ = some v2
  c3 : W.cell? ⟨p, 3, none⟩ = some v3
  c4 : W.cell? ⟨p, 4, none⟩ = some v4
  z : ∀ o, W.frozen? ⟨p, o, none⟩ = false
theorem Box5.lt {W : World} {p : Nat} {v0 v1 v2 v3 v4 : Value} (h : Box5 W p v0 v1 v2 v3 v4) : p < W.heap.size := World.block_lt_of_cell? _ _ h.c0
theorem Box5.rk {W W2 : World} {p b : Nat} {v0 v1 v2 v3 v4 : Value} (h : Box5 W p v0 v1 v2 v3 v4) (hk : RK b W W2) (hne : p ≠ b) : Box5 W2 p v0 v1 v2 v3 v4 :=
  ⟨(hk.cell h.lt hne).trans h.c0, (hk.cell h.lt hne).trans h.c1, (hk.cell h.lt hne).trans h.c2, (hk.cell h.lt hne).trans h.c3, (hk.cell h.lt hne).trans h.c4, fun o => (hk.frozen (p := ⟨p, o, none⟩) h.lt hne).trans (h.z o)⟩
theorem Box5.below {W W2 : World} {p : Nat} {v0 v1 v2 v3 v4 : Value} (h : Box5 W p v0 v1 v2 v3 v4) (hb : Below W.heap.size W W2) : Box5 W2 p v0 v1 v2 v3 v4 :=
  ⟨(hb.cell (p := ⟨p, 0, none⟩) h.lt).trans h.c0, (hb.cell (p := ⟨p, 1, none⟩) h.lt).trans h.c1, (hb.cell (p := ⟨p, 2, none⟩) h.lt).trans h.c2, (hb.cell (p := ⟨p, 3, none⟩) h.lt).trans h.c3, (hb.cell (p := ⟨p, 4, none⟩) h.lt).trans h.c4, fun o => (hb.frozen (p := ⟨p, o, none⟩) h.lt).trans (h.z o)⟩
theorem Box5.other {W : World} {p q o : Nat} {u : Value} {v0 v1 v2 v3 v4 : Value} (h : Box5 W p v0 v1 v2 v3 v4) (hne : p ≠ q) : Box5 (W.setCell ⟨q, o, none⟩ u) p v0 v1 v2 v3 v4 := by
  have e : ∀ o2, (W.setCell ⟨q, o, none⟩ u).cell? ⟨p, o2, none⟩ = W.cell? ⟨p, o2, none⟩ := fun o2 => World.cell?_setCell_other _ _ _ _ (by intro e; injection e with e1; exact hne e1.symm)
  exact ⟨(e 0).trans h.c0, (e 1).trans h.c1, (e 2).trans h.c2, (e 3).trans h.c3, (e 4).trans h.c4, fun o2 => by simpa using h.z o2⟩
theorem box5_new (w : World) (v0 v1 v2 v3 v4 : Value) (T : TypeId) : Box5 (w.alloc (.cells #[v0, v1, v2, v3, v4] T)) w.heap.size v0 v1 v2 v3 v4 := by
  have c : ∀ o, (w.alloc (.cells #[v0, v1, v2, v3, v4] T)).cell? ⟨w.heap.size, o, none⟩ = #[v0, v1, v2, v3, v4][o]? := fun o => World.cell?_alloc_at _ _ _ _ rfl
  exact ⟨c 0, c 1, c 2, c 3, c 4, fun o => by simp⟩
theorem rk_far {b q o : Nat} {W : World} {u : Value} {W0 : World} (h : RK b W0 W) (hq : W0.heap.size ≤ q) : RK b W0 (W.setCell ⟨q, o, none⟩ u) :=
  ⟨h.os, h.tape, h.output, by simpa using h.size, fun p hp hne => by rw [Below.heap_setCell _ _ _ _ (by show p ≠ q; omega)]; exact h.block p hp hne⟩
theorem rd_far {b q o : Nat} {W : World} {u : Value} {s : List UInt8} (h : RdAt W b B s) (hq : b < q) : RdAt (W.setCell ⟨q, o, none⟩ u) b B s :=
  h.low ((Below.refl _ _).setCell (by show b + 1 ≤ q; omega) _)
/-- the five cells of the result are laid -/
theorem rd_put5 {b q : Nat} {W W0 : World} {s : List UInt8} {v0 v1 v2 v3 v4 : Value} (h : RdAt W b B s) (hk : RK b W0 W) (hq : b < q) (hq2 : W0.heap.size ≤ q) :
    RdAt (((((W.setCell ⟨q, 0, none⟩ v0).setCell ⟨q, 1, none⟩ v1).setCell ⟨q, 2, none⟩ v2).setCell ⟨q, 3, none⟩ v3).setCell ⟨q, 4, none⟩ v4) b B s ∧ RK b W0 (((((W.setCell ⟨q, 0, none⟩ v0).setCell ⟨q, 1, none⟩ v1).setCell ⟨q, 2, none⟩ v2).setCell ⟨q, 3, none⟩ v3).setCell ⟨q, 4, none⟩ v4) :=
  ⟨rd_far (rd_far (rd_far (rd_far (rd_far h hq) hq) hq) hq) hq, rk_far (rk_far (rk_far (rk_far (rk_far hk hq2) hq2) hq2) hq2) hq2⟩
theorem vright_is (v : V) (w : World) (B : Bool) (hB : vRight v = B) (ht : v.text.length ≤ 140737488351232) :
    Calls Try.prog 41 #[vv v] w fun e w' => e = .returned (.bool B) ∧ Below w.heap.size w w' := by
  obtain ⟨k, n, x, t, y⟩ := v
  have := vright_any k n x t y w ht
  rw [hB] at this
  exact this
theorem decVal_cons (c : UInt8) (t : List UInt8) : decVal (c :: t) = if c = 0 then match decLong t with
      | none => none
      | some (x, r) => some (⟨0, i64of x, 0, [], false⟩, r)
    else if c = 1 then match decLong t with
      | none => none
      | some (x, r) => if (Ord.back x).2 then some (⟨1, 0, (Ord.back x).1, [], false⟩, r) else none
    else if c = 2 then match decText t with
      | none => none
      | some (u, r) => if u.length ≤ 40 then some (⟨2, 0, 0, u, false⟩, r) else none
    else if c = 3 then match t with
      | [] => none
      | d :: r => if d.toNat ≤ 1 then some (⟨3, 0, 0, [], d == 1⟩, r) else none
    else none := rfl
theorem took_some {α : Type} {b : Nat} {w w' : World} {a : α} {t : List UInt8} {ret : α → Value} {e : Ending} (h : Took B b w (some (a, t)) ret e w') : e = .returned (ret a) ∧ RdAt w' b B t ∧ RK b w w' := by
  rcases h with ⟨a1, t1, hd, h1, h2, h3⟩ | ⟨hd, _⟩
  · injection hd with hd; injection hd with e1 e2; subst e1; subst e2; exact ⟨h1, h2, h3⟩
  · cases hd
theorem took_none {α : Type} {b : Nat} {w w' : World} {ret : α → Value} {e : Ending} (h : Took B b w none ret e w') : e = shortP ∧ RK b w w' := by
  rcases h with ⟨a1, t1, hd, _⟩ | ⟨_, h1, h2⟩
  · cases hd
  · exact ⟨h1, h2⟩
theorem Box5.set1 {W : World} {q : Nat} {u v0 v1 v2 v3 v4 : Value} (h : Box5 W q v0 v1 v2 v3 v4) : Box5 (W.setCell ⟨q, 1, none⟩ u) q v0 u v2 v3 v4 := ⟨(World.cell?_setCell_other _ _ _ _ (by intro e; injection e with _ e2; exact absurd e2 (by decide))).trans h.c0, World.cell?_setCell_same _ _ _ h.c1, (World.cell?_setCell_other _ _ _ _ (by intro e; injection e with _ e2; exact absurd e2 (by decide))).trans h.c2, (World.cell?_setCell_other _ _ _ _ (by intro e; injection e with _ e2; exact absurd e2 (by decide))).trans h.c3, (World.cell?_setCell_other _ _ _ _ (by intro e; injection e with _ e2; exact absurd e2 (by decide))).trans h.c4, fun o => by simpa using h.z o⟩
theorem Box5.set2 {W : World} {q : Nat} {u v0 v1 v2 v3 v4 : Value} (h : Box5 W q v0 v1 v2 v3 v4) : Box5 (W.setCell ⟨q, 2, none⟩ u) q v0 v1 u v3 v4 := ⟨(World.cell?_setCell_other _ _ _ _ (by intro e; injection e with _ e2; exact absurd e2 (by decide))).trans h.c0, (World.cell?_setCell_other _ _ _ _ (by intro e; injection e with _ e2; exact absurd e2 (by decide))).trans h.c1, World.cell?_setCell_same _ _ _ h.c2, (World.cell?_setCell_other _ _ _ _ (by intro e; injection e with _ e2; exact absurd e2 (by decide))).trans h.c3, (World.cell?_setCell_other _ _ _ _ (by intro e; injection e with _ e2; exact absurd e2 (by decide))).trans h.c4, fun o => by simpa using h.z o⟩
theorem Box5.set3 {W : World} {q : Nat} {u v0 v1 v2 v3 v4 : Value} (h : Box5 W q v0 v1 v2 v3 v4) : Box5 (W.setCell ⟨q, 3, none⟩ u) q v0 v1 v2 u v4 := ⟨(World.cell?_setCell_other _ _ _ _ (by intro e; injection e with _ e2; exact absurd e2 (by decide))).trans h.c0, (World.cell?_setCell_other _ _ _ _ (by intro e; injection e with _ e2; exact absurd e2 (by decide))).trans h.c1, (World.cell?_setCell_other _ _ _ _ (by intro e; injection e with _ e2; exact absurd e2 (by decide))).trans h.c2, World.cell?_setCell_same _ _ _ h.c3, (World.cell?_setCell_other _ _ _ _ (by intro e; injection e with _ e2; exact absurd e2 (by decide))).trans h.c4, fun o => by simpa using h.z o⟩
theorem Box5.set4 {W : World} {q : Nat} {u v0 v1 v2 v3 v4 : Value} (h : Box5 W q v0 v1 v2 v3 v4) : Box5 (W.setCell ⟨q, 4, none⟩ u) q v0 v1 v2 v3 u := ⟨(World.cell?_setCell_other _ _ _ _ (by intro e; injection e with _ e2; exact absurd e2 (by decide))).trans h.c0, (World.cell?_setCell_other _ _ _ _ (by intro e; injection e with _ e2; exact absurd e2 (by decide))).trans h.c1, (World.cell?_setCell_other _ _ _ _ (by intro e; injection e with _ e2; exact absurd e2 (by decide))).trans h.c2, (World.cell?_setCell_other _ _ _ _ (by intro e; injection e with _ e2; exact absurd e2 (by decide))).trans h.c3, World.cell?_setCell_same _ _ _ h.c4, fun o => by simpa using h.z o⟩
set_option maxRecDepth 20000 in
set_option maxHeartbeats 4000000 in
theorem rvalue_any (b : Nat) (s : List UInt8) (w : World) (h : RdAt w b B s) :
    Calls Try.prog 40 #[.pointer (some ⟨b, 0, none⟩)] w fun e w' => Took B b w (decVal s) vv e w' := by
  have hbw := h.lt
  cases s with
  | nil =>
    have HH := Lib.hid (h.below (balloc w (.cells #[.int .i64 0, .int .i64 0, .float .f64 0, .string ⟨#[]⟩, .bool false] 70))); clear h
    go_enter Try.func40, Try.ntmps40
    go_wp2_with (first | (go_at_call 21; refine (rbyte_any b [] _ HH.out).mono ?_; rintro e w1 (⟨c, t, hd, rfl, hr, hk⟩ | ⟨hd, rfl, hk⟩); (cases hd)) | fail)
    exact ⟨rfl, took_no rfl rfl ((rk_below (balloc _ _)).trans hk)⟩
  | cons c t =>
    have HH := Lib.hid (h.below (balloc w (.cells #[.int .i64 0, .int .i64 0, .float .f64 0, .string ⟨#[]⟩, .bool false] 70)))
    have HP := Lib.hid (box5_new w (.int .i64 0) (.int .i64 0) (.float .f64 0) (.string ⟨#[]⟩) (.bool false) 70)
    clear h
    go_enter Try.func40, Try.ntmps40
    go_upto_region 2 with (go_at_call 21; refine (rbyte_any b (c :: t) _ HH.out).mono ?_; rintro e w1 (⟨c1, t1, hd, rfl, hr, hk⟩ | ⟨hd, rfl, hk⟩); (injection hd with hd; injection hd with e1 e2; subst e1; subst e2); rotate_left; (cases hd))
    have hw1 : w.heap.size < w1.heap.size := Nat.lt_of_lt_of_le (by simp) hk.size
    have HBP := Lib.hid ((HP.out.rk hk (by omega)).below (balloc w1 (.cells #[.int .i64 (c.toNat : Int), .int .i64 0, .float .f64 0, .string ⟨#[]⟩, .bool false] 70)))
    have HBQ := Lib.hid (box5_new w1 (.int .i64 (c.toNat : Int)) (.int .i64 0) (.float .f64 0) (.string ⟨#[]⟩) (.bool false) 70)
    have HR1 := Lib.hid (hr.below (balloc w1 (.cells #[.int .i64 (c.toNat : Int), .int .i64 0, .float .f64 0, .string ⟨#[]⟩, .bool false] 70)))
    have HK1 := Lib.hid ((rk_below (b := b) (balloc w (.cells #[.int .i64 0, .int .i64 0, .float .f64 0, .string ⟨#[]⟩, .bool false] 70))).trans (hk.trans (rk_below (balloc w1 (.cells #[.int .i64 (c.toNat : Int), .int .i64 0, .float .f64 0, .string ⟨#[]⟩, .bool false] 70)))))
    generalize World.alloc w1 _ = W1 at *
    generalize w1.heap.size = q at *
    clear hr hk HH HP
    have hqb : q ≠ b := by omega
    have hpb : w.heap.size ≠ b := by omega
    have hpq : w.heap.size ≠ q := by omega
    obtain ⟨k, hk⟩ : ∃ k : Int, (c.toNat : Int) = k := ⟨_, rfl⟩
    rw [hk] at HBQ ⊢
    obtain ⟨y0, y1, y2, y3, y4, yz⟩ := HBQ.out
    by_cases c0 : c = 0
    · obtain rfl : k = 0 := by rw [← hk, c0]; rfl
      cases hd : decLong t with
      | none =>
        have HD := Lib.hid (show decVal (c :: t) = none from by rw [decVal_cons, if_pos c0, hd])
        go_wp2_with (first | (go_at_call 25; refine (rlong_any b t W1 HR1.out).mono ?_; rw [hd]; rintro e w2 h2; obtain ⟨rfl, hk2⟩ := took_none h2) | fail)
        exact ⟨rfl, took_no HD.out rfl (HK1.out.trans hk2)⟩
      | some pr =>
        obtain ⟨x, r⟩ := pr
        obtain ⟨I, hI⟩ : ∃ I, i64of x = I := ⟨_, rfl⟩
        have HD := Lib.hid (show decVal (c :: t) = some (⟨0, I, 0, [], false⟩, r) from by rw [decVal_cons, if_pos c0, hd, ← hI])
        have hI2 : IntKind.i64.wrap (x : Int) = I := hI
        go_wp2_with (first | (go_at_call 25; refine (rlong_any b t W1 HR1.out).mono ?_; rw [hd]; rintro e w2 h2; obtain ⟨rfl, hr2, hk2⟩ := took_some h2; have HBP2 := Lib.hid (HBP.out.rk hk2 hpb); have HBQ2 := Lib.hid (HBQ.out.rk hk2 hqb); obtain ⟨x0, x1, x2, x3, x4, xz⟩ := HBQ2.out) | (go_at_call 41; refine (vright_is ⟨0, I, 0, [], false⟩ _ true (rfl) (by simp; try omega)).mono ?_; rintro e w4 ⟨rfl, hb4⟩; have HBP4 := Lib.hid ((HBP2.out.other hpq).below hb4); obtain ⟨x0, x1, x2, x3, x4, xz⟩ := (HBQ2.out.set1).below hb4; obtain ⟨u0, u1, u2, u3, u4, uz⟩ := HBP4.out) | fail)
        have hr4 := (rd_far (o := 1) (u := (.int .i64 I)) hr2 (q := q) (by omega)).below hb4
        have hk4 := (rk_far (o := 1) (u := (.int .i64 I)) (HK1.out.trans hk2) (q := q) (by omega)).trans (rk_below hb4)
        obtain ⟨hr5, hk5⟩ := rd_put5 (q := w.heap.size) hr4 hk4 hbw (Nat.le_refl _)
        obtain ⟨e0, e1, e2, e3, e4, _⟩ := set5_at w4 w.heap.size (.int .i64 0) (.int .i64 I) (.float .f64 0) (.string ⟨#[]⟩) (.bool false) (fun j hj => by match j, hj with | 0, _ => rw [u0]; rfl | 1, _ => rw [u1]; rfl | 2, _ => rw [u2]; rfl | 3, _ => rw [u3]; rfl | 4, _ => rw [u4]; rfl)
        refine bodyPost_ret (v := vv ⟨0, I, 0, [], false⟩) (by simp [results, Try.results40, go_sem, e0, e1, e2, e3, e4]; try rfl) rfl ?_
        exact took_yes ⟨0, I, 0, [], false⟩ r HD.out rfl hr5 hk5
    have n0 : (k == 0) = false := by rw [← hk, beq_eq_false_iff_ne]; intro e; exact c0 (UInt8.toNat_inj.1 (by simpa using e))
    by_cases c1 : c = 1
    · obtain rfl : k = 1 := by rw [← hk, c1]; rfl
      cases hd : decLong t with
      | none =>
        have HD := Lib.hid (show decVal (c :: t) = none from by rw [decVal_cons, if_neg c0, if_pos c1, hd])
        go_wp2_with (first | (go_at_call 25; refine (rlong_any b t W1 HR1.out).mono ?_; rw [hd]; rintro e w2 h2; obtain ⟨rfl, hk2⟩ := took_none h2) | fail)
        exact ⟨rfl, took_no HD.out rfl (HK1.out.trans hk2)⟩
      | some pr =>
        obtain ⟨x, r⟩ := pr
        have hback := fun w => Ord.back_any x (decLong_enc hd).2 w
        have hdv : decVal (c :: t) = if (Ord.back x).2 then some (⟨1, 0, (Ord.back x).1, [], false⟩, r) else none := by rw [decVal_cons, if_neg c0, if_pos c1, hd]
        generalize Ord.back x = bk at *
        obtain ⟨X, ok⟩ := bk
        dsimp only at hback hdv
        have HBK := Lib.hid hback; clear hback
        cases ok
        · have HD := Lib.hid hdv; clear hdv
          go_wp2_with (first | (go_at_call 25; refine (rlong_any b t W1 HR1.out).mono ?_; rw [hd]; rintro e w2 h2; obtain ⟨rfl, hr2, hk2⟩ := took_some h2; have HBP2 := Lib.hid (HBP.out.rk hk2 hpb); have HBQ2 := Lib.hid (HBQ.out.rk hk2 hqb); obtain ⟨x0, x1, x2, x3, x4, xz⟩ := HBQ2.out) | (go_at_call 48; refine (HBK.out _).mono ?_; rintro e w' ⟨rfl, rfl⟩) | fail)
          exact ⟨rfl, took_no HD.out rfl (HK1.out.trans hk2)⟩
        have HD := Lib.hid hdv; clear hdv
        go_wp2_with (first | (go_at_call 25; refine (rlong_any b t W1 HR1.out).mono ?_; rw [hd]; rintro e w2 h2; obtain ⟨rfl, hr2, hk2⟩ := took_some h2; have HBP2 := Lib.hid (HBP.out.rk hk2 hpb); have HBQ2 := Lib.hid (HBQ.out.rk hk2 hqb); obtain ⟨x0, x1, x2, x3, x4, xz⟩ := HBQ2.out) | (go_at_call 48; refine (HBK.out _).mono ?_; rintro e w' ⟨rfl, rfl⟩) | (go_at_call 41; refine (vright_is ⟨1, 0, X, [], false⟩ _ true (rfl) (by simp)).mono ?_; rintro e w4 ⟨rfl, hb4⟩; have HBP4 := Lib.hid ((HBP2.out.other hpq).below hb4); obtain ⟨x0, x1, x2, x3, x4, xz⟩ := (HBQ2.out.set2).below hb4; obtain ⟨u0, u1, u2, u3, u4, uz⟩ := HBP4.out) | fail)
        have hr4 := (rd_far (o := 2) (u := (.float .f64 X)) hr2 (q := q) (by omega)).below hb4
        have hk4 := (rk_far (o := 2) (u := (.float .f64 X)) (HK1.out.trans hk2) (q := q) (by omega)).trans (rk_below hb4)
        obtain ⟨hr5, hk5⟩ := rd_put5 (q := w.heap.size) hr4 hk4 hbw (Nat.le_refl _)
        obtain ⟨e0, e1, e2, e3, e4, _⟩ := set5_at w4 w.heap.size (.int .i64 1) (.int .i64 0) (.float .f64 X) (.string ⟨#[]⟩) (.bool false) (fun j hj => by match j, hj with | 0, _ => rw [u0]; rfl | 1, _ => rw [u1]; rfl | 2, _ => rw [u2]; rfl | 3, _ => rw [u3]; rfl | 4, _ => rw [u4]; rfl)
        refine bodyPost_ret (v := vv ⟨1, 0, X, [], false⟩) (by simp [results, Try.results40, go_sem, e0, e1, e2, e3, e4]; try rfl) rfl ?_
        exact took_yes ⟨1, 0, X, [], false⟩ r HD.out rfl hr5 hk5
    have n1 : (k == 1) = false := by rw [← hk, beq_eq_false_iff_ne]; intro e; exact c1 (UInt8.toNat_inj.1 (by show c.toNat = 1; omega))
    by_cases c2 : c = 2
    · obtain rfl : k = 2 := by rw [← hk, c2]; rfl
      cases hd : decText t with
      | none =>
        have HD := Lib.hid (show decVal (c :: t) = none from by rw [decVal_cons, if_neg c0, if_neg c1, if_pos c2, hd])
        go_wp2_with (first | (go_at_call 24; refine (rtext_any b t W1 HR1.out).mono ?_; rw [hd]; rintro e w2 h2; obtain ⟨rfl, hk2⟩ := took_none h2) | fail)
        exact ⟨rfl, took_no HD.out rfl (HK1.out.trans hk2)⟩
      | some pr =>
        obtain ⟨u, r⟩ := pr
        have hul : u.length ≤ 140737488351232 := by have := (decText_enc hd).2; omega
        have hdv : decVal (c :: t) = if u.length ≤ 40 then some (⟨2, 0, 0, u, false⟩, r) else none := by rw [decVal_cons, if_neg c0, if_neg c1, if_pos c2, hd]
        by_cases hu : u.length ≤ 40
        rotate_left
        · have hvr : vRight ⟨2, 0, 0, u, false⟩ = false := by simp [vRight]; omega
          rw [if_neg hu] at hdv
          have HD := Lib.hid hdv; clear hdv
          go_wp2_with (first | (go_at_call 24; refine (rtext_any b t W1 HR1.out).mono ?_; rw [hd]; rintro e w2 h2; obtain ⟨rfl, hr2, hk2⟩ := took_some h2; have HBP2 := Lib.hid (HBP.out.rk hk2 hpb); have HBQ2 := Lib.hid (HBQ.out.rk hk2 hqb); obtain ⟨x0, x1, x2, x3, x4, xz⟩ := HBQ2.out) | (go_at_call 41; refine (vright_is ⟨2, 0, 0, u, false⟩ _ false hvr hul).mono ?_; rintro e w4 ⟨rfl, hb4⟩) | fail)
          exact ⟨rfl, took_no HD.out rfl ((rk_far (HK1.out.trans hk2) (by omega)).trans (rk_below hb4))⟩
        have hvr : vRight ⟨2, 0, 0, u, false⟩ = true := by simp [vRight]; omega
        rw [if_pos hu] at hdv
        have HD := Lib.hid hdv; clear hdv
        go_wp2_with (first | (go_at_call 24; refine (rtext_any b t W1 HR1.out).mono ?_; rw [hd]; rintro e w2 h2; obtain ⟨rfl, hr2, hk2⟩ := took_some h2; have HBP2 := Lib.hid (HBP.out.rk hk2 hpb); have HBQ2 := Lib.hid (HBQ.out.rk hk2 hqb); obtain ⟨x0, x1, x2, x3, x4, xz⟩ := HBQ2.out) | (go_at_call 41; refine (vright_is ⟨2, 0, 0, u, false⟩ _ true (hvr) (hul)).mono ?_; rintro e w4 ⟨rfl, hb4⟩; have HBP4 := Lib.hid ((HBP2.out.other hpq).below hb4); obtain ⟨x0, x1, x2, x3, x4, xz⟩ := (HBQ2.out.set3).below hb4; obtain ⟨u0, u1, u2, u3, u4, uz⟩ := HBP4.out) | fail)
        have hr4 := (rd_far (o := 3) (u := (.string ⟨u.toArray⟩)) hr2 (q := q) (by omega)).below hb4
        have hk4 := (rk_far (o := 3) (u := (.string ⟨u.toArray⟩)) (HK1.out.trans hk2) (q := q) (by omega)).trans (rk_below hb4)
        obtain ⟨hr5, hk5⟩ := rd_put5 (q := w.heap.size) hr4 hk4 hbw (Nat.le_refl _)
        obtain ⟨e0, e1, e2, e3, e4, _⟩ := set5_at w4 w.heap.size (.int .i64 2) (.int .i64 0) (.float .f64 0) (.string ⟨u.toArray⟩) (.bool false) (fun j hj => by match j, hj with | 0, _ => rw [u0]; rfl | 1, _ => rw [u1]; rfl | 2, _ => rw [u2]; rfl | 3, _ => rw [u3]; rfl | 4, _ => rw [u4]; rfl)
        refine bodyPost_ret (v := vv ⟨2, 0, 0, u, false⟩) (by simp [results, Try.results40, go_sem, e0, e1, e2, e3, e4]; try rfl) rfl ?_
        exact took_yes ⟨2, 0, 0, u, false⟩ r HD.out rfl hr5 hk5
    have n2 : (k == 2) = false := by rw [← hk, beq_eq_false_iff_ne]; intro e; exact c2 (UInt8.toNat_inj.1 (by show c.toNat = 2; omega))
    by_cases c3 : c = 3
    · obtain rfl : k = 3 := by rw [← hk, c3]; rfl
      cases hd : decByte t with
      | none =>
        have ht : t = [] := by cases t with | nil => rfl | cons x y => cases hd
        have HD := Lib.hid (show decVal (c :: t) = none from by rw [decVal_cons, if_neg c0, if_neg c1, if_neg c2, if_pos c3, ht])
        go_wp2_with (first | (go_at_call 21; refine (rbyte_any b t W1 HR1.out).mono ?_; rw [hd]; rintro e w2 h2; obtain ⟨rfl, hk2⟩ := took_none h2) | fail)
        exact ⟨rfl, took_no HD.out rfl (HK1.out.trans hk2)⟩
      | some pr =>
        obtain ⟨d, r⟩ := pr
        have ht : t = d :: r := by
          cases t with
          | nil => cases hd
          | cons x y => injection hd with hd; injection hd with e1 e2; rw [e1, e2]
        have hdv : decVal (c :: t) = if d.toNat ≤ 1 then some (⟨3, 0, 0, [], d == 1⟩, r) else none := by rw [decVal_cons, if_neg c0, if_neg c1, if_neg c2, if_pos c3, ht]
        by_cases hu : d.toNat ≤ 1
        rotate_left
        · have i1 : (1 : Int) < (d.toNat : Int) := by omega
          rw [if_neg hu] at hdv
          have HD := Lib.hid hdv; clear hdv
          go_wp2_with (first | (go_at_call 21; refine (rbyte_any b t W1 HR1.out).mono ?_; rw [hd]; rintro e w2 h2; obtain ⟨rfl, hr2, hk2⟩ := took_some h2; have HBP2 := Lib.hid (HBP.out.rk hk2 hpb); have HBQ2 := Lib.hid (HBQ.out.rk hk2 hqb); obtain ⟨x0, x1, x2, x3, x4, xz⟩ := HBQ2.out) | fail)
          exact ⟨rfl, took_no HD.out rfl (HK1.out.trans hk2)⟩
        have i1 : ¬ (1 : Int) < (d.toNat : Int) := by omega
        obtain ⟨Y, hY⟩ : ∃ Y, (d == 1) = Y := ⟨_, rfl⟩
        have hY2 : ((d.toNat : Int) == 1) = Y := by
          rw [← hY, Bool.eq_iff_iff, beq_iff_eq, beq_iff_eq]
          constructor
          · intro e; exact UInt8.toNat_inj.1 (by show d.toNat = 1; omega)
          · intro e; rw [e]; rfl
        rw [if_pos hu, hY] at hdv
        have HD := Lib.hid hdv; clear hdv
        go_wp2_with (first | (go_at_call 21; refine (rbyte_any b t W1 HR1.out).mono ?_; rw [hd]; rintro e w2 h2; obtain ⟨rfl, hr2, hk2⟩ := took_some h2; have HBP2 := Lib.hid (HBP.out.rk hk2 hpb); have HBQ2 := Lib.hid (HBQ.out.rk hk2 hqb); obtain ⟨x0, x1, x2, x3, x4, xz⟩ := HBQ2.out) | (go_at_call 41; refine (vright_is ⟨3, 0, 0, [], Y⟩ _ true (rfl) (by simp)).mono ?_; rintro e w4 ⟨rfl, hb4⟩; have HBP4 := Lib.hid ((HBP2.out.other hpq).below hb4); obtain ⟨x0, x1, x2, x3, x4, xz⟩ := (HBQ2.out.set4).below hb4; obtain ⟨u0, u1, u2, u3, u4, uz⟩ := HBP4.out) | fail)
        have hr4 := (rd_far (o := 4) (u := (.bool Y)) hr2 (q := q) (by omega)).below hb4
        have hk4 := (rk_far (o := 4) (u := (.bool Y)) (HK1.out.trans hk2) (q := q) (by omega)).trans (rk_below hb4)
        obtain ⟨hr5, hk5⟩ := rd_put5 (q := w.heap.size) hr4 hk4 hbw (Nat.le_refl _)
        obtain ⟨e0, e1, e2, e3, e4, _⟩ := set5_at w4 w.heap.size (.int .i64 3) (.int .i64 0) (.float .f64 0) (.string ⟨#[]⟩) (.bool Y) (fun j hj => by match j, hj with | 0, _ => rw [u0]; rfl | 1, _ => rw [u1]; rfl | 2, _ => rw [u2]; rfl | 3, _ => rw [u3]; rfl | 4, _ => rw [u4]; rfl)
        refine bodyPost_ret (v := vv ⟨3, 0, 0, [], Y⟩) (by simp [results, Try.results40, go_sem, e0, e1, e2, e3, e4]; try rfl) rfl ?_
        exact took_yes ⟨3, 0, 0, [], Y⟩ r HD.out rfl hr5 hk5
    · have n3 : (k == 3) = false := by rw [← hk, beq_eq_false_iff_ne]; intro e; exact c3 (UInt8.toNat_inj.1 (by show c.toNat = 3; omega))
      have HD := Lib.hid (show decVal (c :: t) = none from by rw [decVal_cons, if_neg c0, if_neg c1, if_neg c2, if_neg c3])
      go_wp2_with fail
      exact ⟨rfl, took_no HD.out rfl HK1.out⟩
end Go.Proofs.Ytpbdgbejcdncgaa.Wire
end

section
/- A READER OF BYTES: a filter. -/
namespace Go.Proofs.Ytpbdgbejcdncgaa.Wire
open Go.RowKit Flt Go.Proofs.Ytpbdgbejcdncgaa.Val Go.Lib
variable {B : Nat}
attribute [local go_sem] run_store_flt
def decCond (s : List UInt8) : Option (C × List UInt8) := match decText s with
  | none => none
  | some (nm, t) => match decByte t with
    | none => none
    | some (c, t2) => match decVal t2 with
      | none => none
      | some (v, r) => some (⟨nm, (c.toNat : Int), v⟩, r)
def decFilter (s : List UInt8) : Option ((List UInt8 × List C) × List UInt8) := match decText s with
  | none => none
  | some (sf, t) => match decByte t with
    | none => none
    | some (c, t2) => match decMany decCond c.toNat t2 with
      | none => none
      | some (l, r) => some ((sf, l), r)
def cells7W (c : C) : List Value := [.string ⟨c.name.toArray⟩, .int .i64 c.op, .int .i64 c.val.kind, .int .i64 c.val.int, .float .f64 c.val.num, .string ⟨c.val.text.toArray⟩, .bool c.val.yes]
def flatW (l : List C) : List Value := l.flatMap cells7W
theorem flatW_at : ∀ (l : List C) (i j : Nat) (hi : i < l.length), j < 7 → (flatW l)[i * 7 + j]? = (cells7W l[i])[j]?
  | v :: l, 0, j, _, hj => by
    unfold flatW; rw [List.flatMap_cons, List.getElem?_append_left (by simp [cells7W]; omega)]; simp
  | v :: l, i + 1, j, hi, hj => by
    unfold flatW; rw [List.flatMap_cons, List.getElem?_append_right (by simp [cells7W]; omega)]
    have e : (i + 1) * 7 + j - (cells7W v).length = i * 7 + j := by simp [cells7W]; omega
    rw [e]
    exact flatW_at l i j (by simpa using hi) hj
theorem flatW_one (l : List C) : ∀ u ∈ flatW l, u.oneCell' = true := by
  intro u hu
  obtain ⟨v, _, hv⟩ := List.mem_flatMap.1 hu
  simp only [cells7W, List.mem_cons, List.not_mem_nil, or_false] at hv
  rcases hv with rfl | rfl | rfl | rfl | rfl | rfl | rfl <;> rfl
theorem cond_none1 {s : List UInt8} (h : decText s = none) : decCond s = none := by unfold decCond; rw [h]
theorem cond_none2 {s t nm : List UInt8} (h : decText s = some (nm, t)) (h2 : decByte t = none) : decCond s = none := by unfold decCond; rw [h]; dsimp only; rw [h2]
theorem cond_none3 {s t nm t2 : List UInt8} {c : UInt8} (h : decText s = some (nm, t)) (h2 : decByte t = some (c, t2)) (h3 : decVal t2 = none) : decCond s = none := by unfold decCond; rw [h]; dsimp only; rw [h2]; dsimp only; rw [h3]
theorem cond_some {s t nm t2 r : List UInt8} {c : UInt8} {v : V} (h : decText s = some (nm, t)) (h2 : decByte t = some (c, t2)) (h3 : decVal t2 = some (v, r)) : decCond s = some (⟨nm, (c.toNat : Int), v⟩, r) := by unfold decCond; rw [h]; dsimp only; rw [h2]; dsimp only; rw [h3]
theorem many_next {α : Type} {f : List UInt8 → Option (α × List UInt8)} {n k : Nat} {s rest r : List UInt8} {l : List α} {a : α} (hk : k < n) (h : decMany f n s = (decMany f (n - k) rest).map fun p => (l ++ p.1, p.2)) (h2 : f rest = some (a, r)) :
    decMany f n s = (decMany f (n - (k + 1)) r).map fun p => ((l ++ [a]) ++ p.1, p.2) := by
  rw [h, show n - k = (n - (k + 1)) + 1 from by omega]
  show Option.map _ (match f rest with | none => none | some (a, t) => match decMany f (n - (k + 1)) t with | none => none | some (l, r) => some (a :: l, r)) = _
  rw [h2]
  dsimp only
  cases decMany f (n - (k + 1)) r with
  | none => rfl
  | some p => simp
theorem many_stop {α : Type} {f : List UInt8 → Option (α × List UInt8)} {n k : Nat} {s rest : List UInt8} {l : List α} (hk : k < n) (h : decMany f n s = (decMany f (n - k) rest).map fun p => (l ++ p.1, p.2)) (h2 : f rest = none) :
    decMany f n s = none := by
  rw [h, show n - k = (n - (k + 1)) + 1 from by omega]
  show Option.map _ (match f rest with | none => none | some (a, t) => match decMany f (n - (k + 1)) t with | none => none | some (l, r) => some (a :: l, r)) = _
  rw [h2]
  rfl
theorem many_end {α : Type} {f : List UInt8 → Option (α × List UInt8)} {n : Nat} {s rest : List UInt8} {l : List α} (h : decMany f n s = (decMany f (n - n) rest).map fun p => (l ++ p.1, p.2)) : decMany f n s = some (l, rest) := by
  rw [h, Nat.sub_self]
  show some (l ++ [], rest) = _
  rw [List.append_nil]
theorem drew0 (w : World) : Below w.heap.size w w.drew := (Below.refl _ _).trans ⟨rfl, rfl, rfl, Nat.le_refl _, fun _ _ => rfl⟩
theorem info_condW : (Try.prog.info? 72).map (fun i => (i.zero, i.size, i.bytes)) = some (some (.agg #[.string .empty, .int .i64 0, .int .i64 0, .int .i64 0, .float .f64 0, .string .empty, .bool false]), 7, 72) := by kernel_rfl
theorem new_condW (w : World) (c : C) (e : TypeId) : ∀ j u, (flatW [c])[j]? = some u → (w.alloc (.cells #[.string ⟨c.name.toArray⟩, .int .i64 c.op, .int .i64 c.val.kind, .int .i64 c.val.int, .float .f64 c.val.num, .string ⟨c.val.text.toArray⟩, .bool c.val.yes] e)).cell? ((⟨w.heap.size, 0, none⟩ : Addr).add j) = some u := by
  intro j u hj
  have hadd : (⟨w.heap.size, 0, none⟩ : Addr).add j = ⟨w.heap.size, j, none⟩ := by unfold Addr.add; split <;> simp_all
  rw [hadd, World.cell?_alloc_at _ _ _ _ rfl]
  simpa [flatW, cells7W] using hj
theorem own_condsW {w : World} {v : Value} {l : List C} {base : Nat} (h : w.ownsRow base 72 7 v l.length (flatW l)) :
    ∃ a0 cap, v = .slice a0 l.length cap ∧ l.length ≤ cap ∧ (a0 = none → cap = 0) ∧ Conds w a0 l ∧ (∀ a, a0 = some a → base ≤ a.block) := by
  rcases h.2 with ⟨rfl, h0⟩ | ⟨g, cp, cur, rfl, hb, _, hn, _⟩
  · have : l = [] := List.eq_nil_of_length_eq_zero h0
    subst this
    exact ⟨none, 0, rfl, Nat.le_refl _, fun _ => rfl, fun i hi => absurd hi (Nat.not_lt_zero _), fun a e => by cases e⟩
  · refine ⟨some ⟨g, 0, none⟩, cp, rfl, hn, fun e => (by cases e), fun i hi => ⟨_, rfl, ?_⟩, fun a e => by injection e with e; rw [← e]; exact hb⟩
    have k : ∀ j (hj : j < 7), w.cell? ⟨g, i * 7 + j, none⟩ = (cells7W l[i])[j]? := by
      intro j hj
      have hm := flatW_at l i j hi hj
      have hc : (cells7W l[i])[j]? = some ((cells7W l[i])[j]'(by simpa [cells7W] using hj)) := by simp
      rw [hc] at hm ⊢
      have := h.cells rfl (i * 7 + j) _ hm
      have hadd : (⟨g, 0, none⟩ : Addr).add (i * 7 + j) = ⟨g, i * 7 + j, none⟩ := by unfold Addr.add; split <;> simp_all
      rw [← hadd]; exact this
    have hadd : (⟨g, 0, none⟩ : Addr).add (i * 7) = ⟨g, i * 7, none⟩ := by unfold Addr.add; split <;> simp_all
    rw [hadd]
    exact ⟨k 0 (by omega), k 1 (by omega), k 2 (by omega), k 3 (by omega), k 4 (by omega), k 5 (by omega), k 6 (by omega)⟩
/-- a filter under way: its box at q, its row -/
structure FS (B : Nat) (w D : World) (b q : Nat) (sf : List UInt8) (v : Value) (l : List C) (r : List UInt8) : Prop where
  rd : RdAt D b B r
  rk : RK b w D
  c0 : D.cell? ⟨q, 0, none⟩ = some (.string ⟨sf.toArray⟩)
  c1 : D.cell? ⟨q, 1, none⟩ = some v
  z : ∀ o, D.frozen? ⟨q, o, none⟩ = false
  own : D.ownsRow (q + 1) 72 7 v l.length (flatW l)
  p0 : D.cell? ⟨w.heap.size, 0, none⟩ = some (.string ⟨#[]⟩)
  p1 : D.cell? ⟨w.heap.size, 1, none⟩ = some (.slice none 0 0)
  pz : ∀ o, D.frozen? ⟨w.heap.size, o, none⟩ = false
  qw : w.heap.size < q
  bw : b < w.heap.size
theorem FS.cells {w D : World} {b q : Nat} {sf : List UInt8} {v : Value} {l : List C} {r : List UInt8} (h : FS B w D b q sf v l r) : D.cell? ⟨q, 0, none⟩ = some (.string ⟨sf.toArray⟩) ∧ D.cell? ⟨q, 1, none⟩ = some v ∧ D.frozen? ⟨q, 1, none⟩ = false := ⟨h.c0, h.c1, h.z 1⟩
theorem FS.qlt {w D : World} {b q : Nat} {sf : List UInt8} {v : Value} {l : List C} {r : List UInt8} (h : FS B w D b q sf v l r) : q < D.heap.size := World.block_lt_of_cell? _ _ h.c0
theorem own_rk {D D2 : World} {b base e size n : Nat} {v : Value} {xs : List Value} (h : D.ownsRow base e size v n xs) (hk : RK b D D2) (hb : b < base) : D2.ownsRow base e size v n xs := by
  have hv := fun k hk => h.lt k hk
  refine ⟨h.1, ?_⟩
  rcases h.2 with hn | ⟨g2, cap, cur, rfl, hb2, hgg, rest⟩
  · exact .inl hn
  · refine .inr ⟨g2, cap, cur, rfl, hb2, ?_, rest⟩
    rw [hk.block g2 (hv g2 (by simp [Value.ownBlock])).2 (by omega)]
    exact hgg
theorem FS.rk2 {w D D2 : World} {b q : Nat} {sf : List UInt8} {v : Value} {l : List C} {r r2 : List UInt8} (h : FS B w D b q sf v l r) (hk : RK b D D2) (hr : RdAt D2 b B r2) : FS B w D2 b q sf v l r2 := by
  have hq := h.qlt
  have hne : q ≠ b := by have := h.qw; have := h.bw; omega
  have hpb : w.heap.size ≠ b := by have := h.bw; omega
  have hpd : w.heap.size < D.heap.size := World.block_lt_of_cell? _ _ h.p0
  exact ⟨hr, h.rk.trans hk, (hk.cell (p := ⟨q, 0, none⟩) hq hne).trans h.c0, (hk.cell (p := ⟨q, 1, none⟩) hq hne).trans h.c1, fun o => (hk.frozen (p := ⟨q, o, none⟩) hq hne).trans (h.z o), own_rk h.own hk (by have := h.qw; have := h.bw; omega), (hk.cell (p := ⟨w.heap.size, 0, none⟩) hpd hpb).trans h.p0, (hk.cell (p := ⟨w.heap.size, 1, none⟩) hpd hpb).trans h.p1, fun o => (hk.frozen (p := ⟨w.heap.size, o, none⟩) hpd hpb).trans (h.pz o), h.qw, h.bw⟩
theorem FS.below {w D D2 : World} {b q : Nat} {sf : List UInt8} {v : Value} {l : List C} {r : List UInt8} (h : FS B w D b q sf v l r) (hb : Below D.heap.size D D2) : FS B w D2 b q sf v l r :=
  h.rk2 (rk_below hb) (h.rd.below hb)
/-- behind the append, and the store -/
theorem FS.put {w D D2 : World} {b q g cap : Nat} {sf : List UInt8} {v : Value} {l : List C} {c : C} {r : List UInt8} (h : FS B w D b q sf v l r) (hown : D2.ownsRow (q + 1) 72 7 (.slice (some ⟨g, 0, none⟩) (l.length + 1) cap) (l.length + 1) (flatW l ++ flatW [c])) (hgrow : D.grownBy D2 v.ownBlock) :
    (D2.cell? ⟨q, 1, none⟩ = some v ∧ D2.frozen? ⟨q, 1, none⟩ = false) ∧ FS B w (D2.setCell ⟨q, 1, none⟩ (.slice (some ⟨g, 0, none⟩) (l.length + 1) cap)) b q sf (.slice (some ⟨g, 0, none⟩) (l.length + 1) cap) (l ++ [c]) r := by
  have hq := h.qlt
  have hrow : ∀ k, v.ownBlock = some k → q + 1 ≤ k := fun k hk => (h.own.lt k hk).1
  have hne : some q ≠ v.ownBlock := fun e => by have := hrow q e.symm; omega
  have hc0 := (hgrow.cell_far ⟨q, 0, none⟩ hq hne).trans h.c0
  have hc1 := (hgrow.cell_far ⟨q, 1, none⟩ hq hne).trans h.c1
  have hz := fun o => (hgrow.frozen_far ⟨q, o, none⟩ hq hne).trans (h.z o)
  have hbw := h.bw
  have hqw := h.qw
  have hbel : Below (q + 1) D D2 := Below.grown (Below.refl _ _) hgrow (by omega) hrow
  have hpd : w.heap.size < D.heap.size := World.block_lt_of_cell? _ _ h.p0
  have hpne : some w.heap.size ≠ v.ownBlock := fun e => by have := hrow _ e.symm; omega
  have hfar : ∀ o u, (D2.setCell ⟨q, 1, none⟩ u).cell? ⟨w.heap.size, o, none⟩ = D2.cell? ⟨w.heap.size, o, none⟩ := fun o u => World.cell?_setCell_other _ _ _ _ (by intro e; injection e with e1; omega)
  refine ⟨⟨hc1, hz 1⟩, ?_, ?_, ?_, ?_, ?_, ?_, (hfar 0 _).trans ((hgrow.cell_far ⟨w.heap.size, 0, none⟩ hpd hpne).trans h.p0), (hfar 1 _).trans ((hgrow.cell_far ⟨w.heap.size, 1, none⟩ hpd hpne).trans h.p1), fun o => by simpa using (hgrow.frozen_far ⟨w.heap.size, o, none⟩ hpd hpne).trans (h.pz o), hqw, hbw⟩
  · exact rd_far (h.rd.low (hbel.mono (by omega))) (by omega)
  · exact rk_far ⟨hgrow.os.trans h.rk.os, hgrow.tape.trans h.rk.tape, hgrow.output.trans h.rk.output, Nat.le_trans h.rk.size hgrow.size, fun p hp hne2 => (hgrow.block p (Nat.lt_of_lt_of_le hp h.rk.size) (fun e => by have := hrow p e.symm; omega)).trans (h.rk.block p hp hne2)⟩ (Nat.le_of_lt hqw)
  · exact (World.cell?_setCell_other _ _ _ _ (by intro e; injection e with _ e2; exact absurd e2 (by decide))).trans hc0
  · exact World.cell?_setCell_same _ _ _ hc1
  · intro o; simpa using hz o
  · have := ownsRow_setCell_below hown (a := ⟨q, 1, none⟩) (Nat.lt_succ_self q) (.slice (some ⟨g, 0, none⟩) (l.length + 1) cap)
    simpa [flatW] using this
theorem conds_keep {W W2 : World} {a0 : Option Addr} {l : List C} (h : Conds W a0 l) (hk : ∀ a, a0 = some a → ∀ p : Addr, p.block = a.block → p.block < W.heap.size → W2.cell? p = W.cell? p) : Conds W2 a0 l := by
  intro i hi
  obtain ⟨a, e, h0, h1, h2, h3, h4, h5, h6⟩ := h i hi
  have hab : (a.add (i * 7)).block = a.block := by unfold Addr.add; split <;> rfl
  have k := fun {p : Addr} {v : Value} (hp : p.block = a.block) (hc : W.cell? p = some v) => (hk a e p hp (World.block_lt_of_cell? _ _ hc)).trans hc
  exact ⟨a, e, k hab h0, k hab h1, k hab h2, k hab h3, k hab h4, k hab h5, k hab h6⟩
theorem set2W (W : World) (p : Nat) (v0 v1 : Value) (h0 : (W.cell? ⟨p, 0, none⟩).isSome = true) (h1 : (W.cell? ⟨p, 1, none⟩).isSome = true) :
    ((W.setCell ⟨p, 0, none⟩ v0).setCell ⟨p, 1, none⟩ v1).cell? ⟨p, 0, none⟩ = some v0 ∧ ((W.setCell ⟨p, 0, none⟩ v0).setCell ⟨p, 1, none⟩ v1).cell? ⟨p, 1, none⟩ = some v1 := by
  have e := World.cell?_setCells_in p [v0, v1] 0 W (fun j hj => by
    rw [Nat.zero_add]
    match j, hj with
    | 0, _ => exact h0
    | 1, _ => exact h1)
  exact ⟨e 0 (by simp), e 1 (by simp)⟩
/-- what reading a filter tells -/
def TookF (B b : Nat) (w : World) (s : List UInt8) (e : Ending) (w' : World) : Prop :=
  (∃ (sf : List UInt8) (l : List C) (rest : List UInt8) (c0 : Option Addr) (cap : Nat), decFilter s = some ((sf, l), rest) ∧ e = .returned (ev sf c0 l.length cap) ∧ l.length ≤ cap ∧ Conds w' c0 l ∧ (∀ a, c0 = some a → w.heap.size ≤ a.block) ∧ (c0 = none → cap = 0) ∧ RdAt w' b B rest ∧ RK b w w') ∨ (decFilter s = none ∧ e = shortP ∧ RK b w w')
theorem tookf_no {b : Nat} {w w' : World} {s : List UInt8} {e : Ending} (h1 : decFilter s = none) (h2 : e = shortP) (h3 : RK b w w') : TookF B b w s e w' := .inr ⟨h1, h2, h3⟩
theorem filter_none {s t sf t2 : List UInt8} {c : UInt8} (h : decText s = some (sf, t)) (h2 : decByte t = some (c, t2)) (h3 : decMany decCond c.toNat t2 = none) : decFilter s = none := by unfold decFilter; rw [h]; dsimp only; rw [h2]; dsimp only; rw [h3]
set_option maxRecDepth 20000 in
set_option maxHeartbeats 8000000 in
theorem rfilter_any (b : Nat) (s : List UInt8) (w : World) (h : RdAt w b B s) :
    Calls Try.prog 23 #[.pointer (some ⟨b, 0, none⟩)] w fun e w' => TookF B b w s e w' := by
  have hbw := h.lt
  have HH := Lib.hid (h.below (balloc w (.cells #[.string ⟨#[]⟩, .slice none 0 0] 26))); clear h
  obtain ⟨i0, hi, hz0, hz1, hz2⟩ := info_parts info_condW
  go_enter Try.func23, Try.ntmps23
  go_wp2_with (first | (go_at_call 24; refine (rtext_any b s _ HH.out).mono ?_; rintro e w1 (⟨sf, t, hd, rfl, hr, hk⟩ | ⟨hd, rfl, hk⟩)) | (go_at_call 21; refine (rbyte_any b t _ (hr.below (balloc _ _))).mono ?_; rintro e w2 (⟨c, t2, hd2, rfl, hr2, hk2⟩ | ⟨hd2, rfl, hk2⟩)) | fail)
  rotate_left
  · exact ⟨rfl, tookf_no (by unfold decFilter; rw [hd]; dsimp only; rw [hd2]) rfl ((rk_below (balloc w _)).trans (hk.trans ((rk_below (balloc w1 _)).trans hk2)))⟩
  · exact ⟨rfl, tookf_no (by unfold decFilter; rw [hd]) rfl ((rk_below (balloc w _)).trans hk)⟩
  have hpw1 : w.heap.size < w1.heap.size := Nat.lt_of_lt_of_le (by simp) hk.size
  have hf0 : FS B w w2 b w1.heap.size sf (.slice none 0 0) [] t2 := by
    have hpa : ∀ o, w2.cell? ⟨w.heap.size, o, none⟩ = #[Value.string ⟨#[]⟩, .slice none 0 0][o]? := fun o => by
      rw [hk2.cell (p := ⟨w.heap.size, o, none⟩) (by simp; omega) (by simp; omega), World.cell?_alloc_lt _ _ _ hpw1, hk.cell (p := ⟨w.heap.size, o, none⟩) (by simp) (by simp; omega)]
      exact World.cell?_alloc_at _ _ _ _ rfl
    have hpz : ∀ o, w2.frozen? ⟨w.heap.size, o, none⟩ = false := fun o => by
      rw [hk2.frozen (p := ⟨w.heap.size, o, none⟩) (by simp; omega) (by simp; omega), World.frozen?_alloc_old w1 _ ⟨w.heap.size, o, none⟩ (Nat.ne_of_lt hpw1), hk.frozen (p := ⟨w.heap.size, o, none⟩) (by simp) (by simp; omega)]
      simp
    have hqa : ∀ o, w2.cell? ⟨w1.heap.size, o, none⟩ = #[Value.string ⟨sf.toArray⟩, .slice none 0 0][o]? := fun o => by
      rw [hk2.cell (p := ⟨w1.heap.size, o, none⟩) (by simp) (by simp; omega)]
      exact World.cell?_alloc_at _ _ _ _ rfl
    have hqz : ∀ o, w2.frozen? ⟨w1.heap.size, o, none⟩ = false := fun o => by
      rw [hk2.frozen (p := ⟨w1.heap.size, o, none⟩) (by simp) (by simp; omega)]
      simp
    exact ⟨hr2, (rk_below (balloc w _)).trans (hk.trans ((rk_below (balloc w1 _)).trans hk2)), hqa 0, hqa 1, hqz, World.ownsRow_nil _ _ _ _, hpa 0, hpa 1, hpz, hpw1, hbw⟩
  have HF0 := Lib.hid hf0
  clear hf0 hr hr2 hk hk2 HH
  generalize w1.heap.size = q at *
  have hc8 : c.toNat < 256 := c.toNat_lt
  have hdf : ∀ l r, decMany decCond c.toNat t2 = some (l, r) → decFilter s = some ((sf, l), r) := fun l r h => by unfold decFilter; rw [hd]; dsimp only; rw [hd2]; dsimp only; rw [h]
  have hdn := fun h => filter_none hd hd2 h
  have HDF := Lib.hid hdf; have HDN := Lib.hid hdn
  clear hdf hdn hd hd2
  generalize c.toNat = n at *
  generalize w2 = WE at *
  go_loopw [9] (fun vi wr => ∃ (k : Nat) (v : Value) (l : List C) (rest : List UInt8), k ≤ n ∧ vi = .int .i64 k ∧ l.length = k ∧ Hid (decMany decCond n t2 = (decMany decCond (n - k) rest).map fun p => (l ++ p.1, p.2)) ∧ Hid (FS B w wr b q sf v l rest)) (fun vi _ => n - (RowKit.intOf vi).toNat)
  case atStart => exact ⟨0, _, [], t2, Nat.zero_le _, rfl, rfl, Lib.hid (by simp), HF0⟩
  case round =>
    obtain ⟨k, v, l, rest, hk, rfl, hlk, HM, HF⟩ := hrel
    subst hlk
    by_cases hlt : l.length < n
    · have i1 : (l.length : Int) < (n : Int) := by omega
      go_upto_region 4 with fail
      clear HDF hbw
      refine wp_region_held_drew (S := fun _ => True) (by kernel_rfl) trivial (fun hq0 => ?_)
      replace HF := Lib.hid (HF.out.below (drew0 wr))
      generalize wr.drew = D0 at *
      (refine wpAnyH_take (i := 0) (oi := ?_) (v := ?_) ?_ (by kernel_rfl) (by kernel_rfl) (by kernel_rfl) ?_ (Or.inl ⟨?_, ?_⟩) (by assumption) ?_; rotate_left 2; (· (simp only [List.getElem?_toArray, List.getElem?_cons_zero]; first | done | rfl)); (· exact (fun _ _ _ h => h)); (· rfl); (· (intro w hSw; (try dsimp only at hSw); go_simp; (try with_reducible rfl))))
      (try simp only [Act.put, List.setIfInBounds_toArray, List.set_cons_zero, List.set_cons_succ])
      (refine wpAnyH_take (i := 2) (oi := ?_) (v := ?_) ?_ (by kernel_rfl) (by kernel_rfl) (by kernel_rfl) ?_ (Or.inl ⟨?_, ?_⟩) (by assumption) ?_; rotate_left 2; (· (simp only [List.getElem?_toArray, List.getElem?_cons_succ, List.getElem?_cons_zero]; first | done | rfl)); (· exact (fun _ _ _ h => h)); (· rfl); (· (intro w hSw; (try dsimp only at hSw); go_simp; (try with_reducible rfl))))
      (try simp only [Act.put, List.setIfInBounds_toArray, List.set_cons_zero, List.set_cons_succ])
      (refine wpAnyH_take (i := 4) (oi := ?_) (v := ?_) ?_ (by kernel_rfl) (by kernel_rfl) (by kernel_rfl) ?_ (Or.inl ⟨?_, ?_⟩) (by assumption) ?_; rotate_left 2; (· (simp only [List.getElem?_toArray, List.getElem?_cons_succ, List.getElem?_cons_zero]; first | done | rfl)); (· exact (fun _ _ _ h => h)); (· rfl); (· (intro w hSw; (try dsimp only at hSw); go_simp; (try with_reducible rfl))))
      (try simp only [Act.put, List.setIfInBounds_toArray, List.set_cons_zero, List.set_cons_succ])
      (refine wpAnyH_take (i := 6) (oi := ?_) (v := ?_) ?_ (by kernel_rfl) (by kernel_rfl) (by kernel_rfl) ?_ (Or.inl ⟨?_, ?_⟩) (by assumption) ?_; rotate_left 2; (· (simp only [List.getElem?_toArray, List.getElem?_cons_succ, List.getElem?_cons_zero]; first | done | rfl)); (· exact (fun _ _ _ h => h)); (· rfl); (· (intro w hSw; (try dsimp only at hSw); go_simp; (try with_reducible rfl))))
      (try simp only [Act.put, List.setIfInBounds_toArray, List.set_cons_zero, List.set_cons_succ])
      refine wpAnyH_ready (rs := [1, 3]) (by kernel_rfl) (by simp) ?_
      refine AllReadyH.cons (o := ?_) ?_ (fun K hK => ?_) ?_
      rotate_left 1
      · (simp only [List.getElem?_toArray, List.getElem?_cons_succ, List.getElem?_cons_zero]; first | done | rfl)
      rotate_left 1
      refine AllReadyH.cons (o := ?_) ?_ (fun K hK => ?_) AllReadyH.nil
      rotate_left 1
      · (simp only [List.getElem?_toArray, List.getElem?_cons_succ, List.getElem?_cons_zero]; first | done | rfl)
      rotate_left 1
      · skip
        obtain ⟨f0, f1, f2⟩ := HF.out.cells
        go_simp
        first | (refine hK.out _ _ trivial (fun hq1 => ?_)) | (go_wp2_with fail; refine hK.out _ _ trivial (fun hq1 => ?_))
        clear hK K
        (try simp only [Act.put, List.setIfInBounds_toArray, List.set_cons_zero, List.set_cons_succ])
        clear hq0
        clear f0 f1 f2
        refine wpAnyH_ready (rs := [3]) (by kernel_rfl) (by simp) ?_
        refine AllReadyH.cons (o := ?_) ?_ (fun K hK => ?_) AllReadyH.nil
        rotate_left 1
        · (simp only [List.getElem?_toArray, List.getElem?_cons_succ, List.getElem?_cons_zero]; first | done | rfl)
        go_simp
        go_at_call 24
        refine (rtext_any b _ D0 HF.out.rd).mono ?_
        rintro e D1 (⟨nm, t1, hd3, rfl, hr, hk⟩ | ⟨hd, rfl, hk⟩)
        rotate_left
        · clear hK
          go_wp2_with fail
          exact ⟨rfl, tookf_no (HDN.out (many_stop hlt HM.out (cond_none1 hd))) rfl (HF.out.rk.trans hk)⟩
        first | (refine hK.out _ _ trivial (fun hq2 => ?_)) | (go_wp2_with fail; refine hK.out _ _ trivial (fun hq2 => ?_))
        clear hK K
        clear hq1
        replace HF := Lib.hid (HF.out.rk2 hk hr)
        clear hk hr
        refine wpAnyH_ready (rs := [5]) (by kernel_rfl) (by simp) ?_
        refine AllReadyH.cons (o := ?_) ?_ (fun K hK => ?_) AllReadyH.nil
        rotate_left 1
        · (simp only [List.getElem?_toArray, List.getElem?_cons_succ, List.getElem?_cons_zero]; first | done | rfl)
        go_simp
        go_at_call 21
        refine (rbyte_any b _ D1 HF.out.rd).mono ?_
        rintro e D2 (⟨c3, t5, hd5, rfl, hr, hk⟩ | ⟨hd, rfl, hk⟩)
        rotate_left
        · clear hK
          go_wp2_with fail
          exact ⟨rfl, tookf_no (HDN.out (many_stop hlt HM.out (cond_none2 hd3 hd))) rfl (HF.out.rk.trans hk)⟩
        first | (refine hK.out _ _ trivial (fun hq3 => ?_)) | (go_wp2_with fail; refine hK.out _ _ trivial (fun hq3 => ?_))
        clear hK K
        clear hq2
        replace HF := Lib.hid (HF.out.rk2 hk hr)
        clear hk hr
        refine wpAnyH_ready (rs := [7]) (by kernel_rfl) (by simp) ?_
        refine AllReadyH.cons (o := ?_) ?_ (fun K hK => ?_) AllReadyH.nil
        rotate_left 1
        · (simp only [List.getElem?_toArray, List.getElem?_cons_succ, List.getElem?_cons_zero]; first | done | rfl)
        go_simp
        go_at_call 40
        refine (rvalue_any b _ D2 HF.out.rd).mono ?_
        rintro e D3 (⟨⟨k1, n1, x1, u1, y1⟩, t7, hd7, rfl, hr, hk⟩ | ⟨hd, rfl, hk⟩)
        rotate_left
        · clear hK
          go_wp2_with fail
          exact ⟨rfl, tookf_no (HDN.out (many_stop hlt HM.out (cond_none3 hd3 hd5 hd))) rfl (HF.out.rk.trans hk)⟩
        first | (refine hK.out _ _ trivial (fun hq4 => ?_)) | (go_wp2_with fail; refine hK.out _ _ trivial (fun hq4 => ?_))
        clear hK K
        clear hq3
        replace HF := Lib.hid (HF.out.rk2 hk hr)
        clear hk hr
        (refine wpAnyH_take (i := 8) (oi := ?_) (v := ?_) ?_ (by kernel_rfl) (by kernel_rfl) (by kernel_rfl) ?_ (Or.inl ⟨?_, ?_⟩) (by assumption) ?_; rotate_left 2; (· (simp only [List.getElem?_toArray, List.getElem?_cons_succ, List.getElem?_cons_zero]; first | done | rfl)); (· exact (fun _ _ _ h => h)); (· rfl); (· (intro w hSw; (try dsimp only at hSw); go_simp; (try with_reducible rfl))))
        (try simp only [Act.put, List.setIfInBounds_toArray, List.set_cons_zero, List.set_cons_succ])
        refine wpAnyH_ready (rs := [9]) (by kernel_rfl) (by simp) ?_
        refine AllReadyH.cons (o := ?_) ?_ (fun K hK => ?_) AllReadyH.nil
        rotate_left 1
        · (simp only [List.getElem?_toArray, List.getElem?_cons_succ, List.getElem?_cons_zero]; first | done | rfl)
        go_simp
        first | (refine hK.out _ _ trivial (fun hq5 => ?_)) | (go_wp2_with fail; refine hK.out _ _ trivial (fun hq5 => ?_))
        clear hK K
        (try simp only [Act.put, List.setIfInBounds_toArray, List.set_cons_zero, List.set_cons_succ])
        clear hq4
        have hnw := new_condW D3 ⟨nm, (c3.toNat : Int), ⟨k1, n1, x1, u1, y1⟩⟩ 72
        have hb := balloc D3 (.cells #[.string ⟨nm.toArray⟩, .int .i64 (c3.toNat : Int), .int .i64 k1, .int .i64 n1, .float .f64 x1, .string ⟨u1.toArray⟩, .bool y1] 72)
        generalize hD : World.alloc D3 _ = D4 at *
        replace HF := Lib.hid (HF.out.below hb)
        have HSZ := Lib.hid hb.size
        have HNW := Lib.hid hnw
        clear hb hnw hD
        generalize D3.heap.size = pn at *
        refine wpAnyH_ready (rs := [10]) (by kernel_rfl) (by simp) ?_
        refine AllReadyH.cons (o := ?_) ?_ (fun K hK => ?_) AllReadyH.nil
        rotate_left 1
        · (simp only [List.getElem?_toArray, List.getElem?_cons_succ, List.getElem?_cons_zero]; first | done | rfl)
        refine wp_append_lies _ _ _ 24 rfl (q + 1) 72 i0 (.agg #[.string .empty, .int .i64 0, .int .i64 0, .int .i64 0, .float .f64 0, .string .empty, .bool false]) 7 72 Try.underlying24 hi hz0 hz1 hz2 rfl (by decide) v l.length (flatW l) rfl HF.out.own ⟨pn, 0, none⟩ 1 1 (flatW [⟨nm, (c3.toNat : Int), ⟨k1, n1, x1, u1, y1⟩⟩]) rfl rfl HNW.out (flatW_one _) (by decide) (by unfold maxLen; omega) (by omega) (Nat.succ_le_of_lt HF.out.qlt) D4.heap.size rfl ?_
        intro g9 cap9 D5 hown9 hgrow9 hat9 hlt9
        first | (refine hK.out _ _ trivial (fun hq6 => ?_)) | (go_wp2_with fail; refine hK.out _ _ trivial (fun hq6 => ?_))
        clear hK K
        (try simp only [Act.put, List.setIfInBounds_toArray, List.set_cons_zero, List.set_cons_succ])
        clear hq5
        have HPUT := Lib.hid (HF.out.put (c := ⟨nm, (c3.toNat : Int), ⟨k1, n1, x1, u1, y1⟩⟩) hown9 hgrow9); clear hown9 hgrow9 hat9 hlt9
        (refine wpAnyH_take (i := 11) (oi := ?_) (v := ?_) ?_ (by kernel_rfl) (by kernel_rfl) (by kernel_rfl) ?_ (Or.inl ⟨?_, ?_⟩) (by assumption) ?_; rotate_left 2; (· (simp only [List.getElem?_toArray, List.getElem?_cons_succ, List.getElem?_cons_zero]; first | done | rfl)); (· exact (fun _ _ _ h => h)); (· rfl); (· (intro w hSw; (try dsimp only at hSw); go_simp; (try with_reducible rfl))))
        (try simp only [Act.put, List.setIfInBounds_toArray, List.set_cons_zero, List.set_cons_succ])
        refine wpAnyH_ready (rs := [12]) (by kernel_rfl) (by simp) ?_
        refine AllReadyH.cons (o := ?_) ?_ (fun K hK => ?_) AllReadyH.nil
        rotate_left 1
        · (simp only [List.getElem?_toArray, List.getElem?_cons_succ, List.getElem?_cons_zero]; first | done | rfl)
        obtain ⟨⟨f1, f2⟩, hfs⟩ := HPUT.out
        go_simp
        first | (refine hK.out _ _ trivial (fun hq7 => ?_)) | (go_wp2_with fail; refine hK.out _ _ trivial (fun hq7 => ?_))
        clear hK K
        (try simp only [Act.put, List.setIfInBounds_toArray, List.set_cons_zero, List.set_cons_succ])
        clear hq6
        refine wpAnyH_done (by kernel_rfl) ?_ _
        go_wp2_with fail
        exact ⟨⟨l.length + 1, _, l ++ [⟨nm, (c3.toNat : Int), ⟨k1, n1, x1, u1, y1⟩⟩], t7, by omega, by go_num, by simp, Lib.hid (many_next hlt HM.out (cond_some hd3 hd5 hd7)), Lib.hid hfs⟩, by simp [RowKit.intOf]; go_num⟩
      · skip
        go_simp
        go_at_call 24
        refine (rtext_any b _ D0 HF.out.rd).mono ?_
        rintro e D6 (⟨nm, t1, hd3, rfl, hr, hk⟩ | ⟨hd, rfl, hk⟩)
        rotate_left
        · clear hK
          go_wp2_with fail
          exact ⟨rfl, tookf_no (HDN.out (many_stop hlt HM.out (cond_none1 hd))) rfl (HF.out.rk.trans hk)⟩
        first | (refine hK.out _ _ trivial (fun hq1 => ?_)) | (go_wp2_with fail; refine hK.out _ _ trivial (fun hq1 => ?_))
        clear hK K
        clear hq0
        replace HF := Lib.hid (HF.out.rk2 hk hr)
        clear hk hr
        refine wpAnyH_ready (rs := [1, 5]) (by kernel_rfl) (by simp) ?_
        refine AllReadyH.cons (o := ?_) ?_ (fun K hK => ?_) ?_
        rotate_left 1
        · (simp only [List.getElem?_toArray, List.getElem?_cons_succ, List.getElem?_cons_zero]; first | done | rfl)
        rotate_left 1
        refine AllReadyH.cons (o := ?_) ?_ (fun K hK => ?_) AllReadyH.nil
        rotate_left 1
        · (simp only [List.getElem?_toArray, List.getElem?_cons_succ, List.getElem?_cons_zero]; first | done | rfl)
        rotate_left 1
        · skip
          obtain ⟨f0, f1, f2⟩ := HF.out.cells
          go_simp
          first | (refine hK.out _ _ trivial (fun hq2 => ?_)) | (go_wp2_with fail; refine hK.out _ _ trivial (fun hq2 => ?_))
          clear hK K
          (try simp only [Act.put, List.setIfInBounds_toArray, List.set_cons_zero, List.set_cons_succ])
          clear hq1
          clear f0 f1 f2
          refine wpAnyH_ready (rs := [5]) (by kernel_rfl) (by simp) ?_
          refine AllReadyH.cons (o := ?_) ?_ (fun K hK => ?_) AllReadyH.nil
          rotate_left 1
          · (simp only [List.getElem?_toArray, List.getElem?_cons_succ, List.getElem?_cons_zero]; first | done | rfl)
          go_simp
          go_at_call 21
          refine (rbyte_any b _ D6 HF.out.rd).mono ?_
          rintro e D7 (⟨c3, t5, hd5, rfl, hr, hk⟩ | ⟨hd, rfl, hk⟩)
          rotate_left
          · clear hK
            go_wp2_with fail
            exact ⟨rfl, tookf_no (HDN.out (many_stop hlt HM.out (cond_none2 hd3 hd))) rfl (HF.out.rk.trans hk)⟩
          first | (refine hK.out _ _ trivial (fun hq3 => ?_)) | (go_wp2_with fail; refine hK.out _ _ trivial (fun hq3 => ?_))
          clear hK K
          clear hq2
          replace HF := Lib.hid (HF.out.rk2 hk hr)
          clear hk hr
          refine wpAnyH_ready (rs := [7]) (by kernel_rfl) (by simp) ?_
          refine AllReadyH.cons (o := ?_) ?_ (fun K hK => ?_) AllReadyH.nil
          rotate_left 1
          · (simp only [List.getElem?_toArray, List.getElem?_cons_succ, List.getElem?_cons_zero]; first | done | rfl)
          go_simp
          go_at_call 40
          refine (rvalue_any b _ D7 HF.out.rd).mono ?_
          rintro e D8 (⟨⟨k1, n1, x1, u1, y1⟩, t7, hd7, rfl, hr, hk⟩ | ⟨hd, rfl, hk⟩)
          rotate_left
          · clear hK
            go_wp2_with fail
            exact ⟨rfl, tookf_no (HDN.out (many_stop hlt HM.out (cond_none3 hd3 hd5 hd))) rfl (HF.out.rk.trans hk)⟩
          first | (refine hK.out _ _ trivial (fun hq4 => ?_)) | (go_wp2_with fail; refine hK.out _ _ trivial (fun hq4 => ?_))
          clear hK K
          clear hq3
          replace HF := Lib.hid (HF.out.rk2 hk hr)
          clear hk hr
          (refine wpAnyH_take (i := 8) (oi := ?_) (v := ?_) ?_ (by kernel_rfl) (by kernel_rfl) (by kernel_rfl) ?_ (Or.inl ⟨?_, ?_⟩) (by assumption) ?_; rotate_left 2; (· (simp only [List.getElem?_toArray, List.getElem?_cons_succ, List.getElem?_cons_zero]; first | done | rfl)); (· exact (fun _ _ _ h => h)); (· rfl); (· (intro w hSw; (try dsimp only at hSw); go_simp; (try with_reducible rfl))))
          (try simp only [Act.put, List.setIfInBounds_toArray, List.set_cons_zero, List.set_cons_succ])
          refine wpAnyH_ready (rs := [9]) (by kernel_rfl) (by simp) ?_
          refine AllReadyH.cons (o := ?_) ?_ (fun K hK => ?_) AllReadyH.nil
          rotate_left 1
          · (simp only [List.getElem?_toArray, List.getElem?_cons_succ, List.getElem?_cons_zero]; first | done | rfl)
          go_simp
          first | (refine hK.out _ _ trivial (fun hq5 => ?_)) | (go_wp2_with fail; refine hK.out _ _ trivial (fun hq5 => ?_))
          clear hK K
          (try simp only [Act.put, List.setIfInBounds_toArray, List.set_cons_zero, List.set_cons_succ])
          clear hq4
          have hnw := new_condW D8 ⟨nm, (c3.toNat : Int), ⟨k1, n1, x1, u1, y1⟩⟩ 72
          have hb := balloc D8 (.cells #[.string ⟨nm.toArray⟩, .int .i64 (c3.toNat : Int), .int .i64 k1, .int .i64 n1, .float .f64 x1, .string ⟨u1.toArray⟩, .bool y1] 72)
          generalize hD : World.alloc D8 _ = D9 at *
          replace HF := Lib.hid (HF.out.below hb)
          have HSZ := Lib.hid hb.size
          have HNW := Lib.hid hnw
          clear hb hnw hD
          generalize D8.heap.size = pn at *
          refine wpAnyH_ready (rs := [10]) (by kernel_rfl) (by simp) ?_
          refine AllReadyH.cons (o := ?_) ?_ (fun K hK => ?_) AllReadyH.nil
          rotate_left 1
          · (simp only [List.getElem?_toArray, List.getElem?_cons_succ, List.getElem?_cons_zero]; first | done | rfl)
          refine wp_append_lies _ _ _ 24 rfl (q + 1) 72 i0 (.agg #[.string .empty, .int .i64 0, .int .i64 0, .int .i64 0, .float .f64 0, .string .empty, .bool false]) 7 72 Try.underlying24 hi hz0 hz1 hz2 rfl (by decide) v l.length (flatW l) rfl HF.out.own ⟨pn, 0, none⟩ 1 1 (flatW [⟨nm, (c3.toNat : Int), ⟨k1, n1, x1, u1, y1⟩⟩]) rfl rfl HNW.out (flatW_one _) (by decide) (by unfold maxLen; omega) (by omega) (Nat.succ_le_of_lt HF.out.qlt) D9.heap.size rfl ?_
          intro g9 cap9 D10 hown9 hgrow9 hat9 hlt9
          first | (refine hK.out _ _ trivial (fun hq6 => ?_)) | (go_wp2_with fail; refine hK.out _ _ trivial (fun hq6 => ?_))
          clear hK K
          (try simp only [Act.put, List.setIfInBounds_toArray, List.set_cons_zero, List.set_cons_succ])
          clear hq5
          have HPUT := Lib.hid (HF.out.put (c := ⟨nm, (c3.toNat : Int), ⟨k1, n1, x1, u1, y1⟩⟩) hown9 hgrow9); clear hown9 hgrow9 hat9 hlt9
          (refine wpAnyH_take (i := 11) (oi := ?_) (v := ?_) ?_ (by kernel_rfl) (by kernel_rfl) (by kernel_rfl) ?_ (Or.inl ⟨?_, ?_⟩) (by assumption) ?_; rotate_left 2; (· (simp only [List.getElem?_toArray, List.getElem?_cons_succ, List.getElem?_cons_zero]; first | done | rfl)); (· exact (fun _ _ _ h => h)); (· rfl); (· (intro w hSw; (try dsimp only at hSw); go_simp; (try with_reducible rfl))))
          (try simp only [Act.put, List.setIfInBounds_toArray, List.set_cons_zero, List.set_cons_succ])
          refine wpAnyH_ready (rs := [12]) (by kernel_rfl) (by simp) ?_
          refine AllReadyH.cons (o := ?_) ?_ (fun K hK => ?_) AllReadyH.nil
          rotate_left 1
          · (simp only [List.getElem?_toArray, List.getElem?_cons_succ, List.getElem?_cons_zero]; first | done | rfl)
          obtain ⟨⟨f1, f2⟩, hfs⟩ := HPUT.out
          go_simp
          first | (refine hK.out _ _ trivial (fun hq7 => ?_)) | (go_wp2_with fail; refine hK.out _ _ trivial (fun hq7 => ?_))
          clear hK K
          (try simp only [Act.put, List.setIfInBounds_toArray, List.set_cons_zero, List.set_cons_succ])
          clear hq6
          refine wpAnyH_done (by kernel_rfl) ?_ _
          go_wp2_with fail
          exact ⟨⟨l.length + 1, _, l ++ [⟨nm, (c3.toNat : Int), ⟨k1, n1, x1, u1, y1⟩⟩], t7, by omega, by go_num, by simp, Lib.hid (many_next hlt HM.out (cond_some hd3 hd5 hd7)), Lib.hid hfs⟩, by simp [RowKit.intOf]; go_num⟩
        · skip
          go_simp
          go_at_call 21
          refine (rbyte_any b _ D6 HF.out.rd).mono ?_
          rintro e D11 (⟨c3, t5, hd5, rfl, hr, hk⟩ | ⟨hd, rfl, hk⟩)
          rotate_left
          · clear hK
            go_wp2_with fail
            exact ⟨rfl, tookf_no (HDN.out (many_stop hlt HM.out (cond_none2 hd3 hd))) rfl (HF.out.rk.trans hk)⟩
          first | (refine hK.out _ _ trivial (fun hq2 => ?_)) | (go_wp2_with fail; refine hK.out _ _ trivial (fun hq2 => ?_))
          clear hK K
          clear hq1
          replace HF := Lib.hid (HF.out.rk2 hk hr)
          clear hk hr
          refine wpAnyH_ready (rs := [1, 7]) (by kernel_rfl) (by simp) ?_
          refine AllReadyH.cons (o := ?_) ?_ (fun K hK => ?_) ?_
          rotate_left 1
          · (simp only [List.getElem?_toArray, List.getElem?_cons_succ, List.getElem?_cons_zero]; first | done | rfl)
          rotate_left 1
          refine AllReadyH.cons (o := ?_) ?_ (fun K hK => ?_) AllReadyH.nil
          rotate_left 1
          · (simp only [List.getElem?_toArray, List.getElem?_cons_succ, List.getElem?_cons_zero]; first | done | rfl)
          rotate_left 1
          · skip
            obtain ⟨f0, f1, f2⟩ := HF.out.cells
            go_simp
            first | (refine hK.out _ _ trivial (fun hq3 => ?_)) | (go_wp2_with fail; refine hK.out _ _ trivial (fun hq3 => ?_))
            clear hK K
            (try simp only [Act.put, List.setIfInBounds_toArray, List.set_cons_zero, List.set_cons_succ])
            clear hq2
            clear f0 f1 f2
            refine wpAnyH_ready (rs := [7]) (by kernel_rfl) (by simp) ?_
            refine AllReadyH.cons (o := ?_) ?_ (fun K hK => ?_) AllReadyH.nil
            rotate_left 1
            · (simp only [List.getElem?_toArray, List.getElem?_cons_succ, List.getElem?_cons_zero]; first | done | rfl)
            go_simp
            go_at_call 40
            refine (rvalue_any b _ D11 HF.out.rd).mono ?_
            rintro e D12 (⟨⟨k1, n1, x1, u1, y1⟩, t7, hd7, rfl, hr, hk⟩ | ⟨hd, rfl, hk⟩)
            rotate_left
            · clear hK
              go_wp2_with fail
              exact ⟨rfl, tookf_no (HDN.out (many_stop hlt HM.out (cond_none3 hd3 hd5 hd))) rfl (HF.out.rk.trans hk)⟩
            first | (refine hK.out _ _ trivial (fun hq4 => ?_)) | (go_wp2_with fail; refine hK.out _ _ trivial (fun hq4 => ?_))
            clear hK K
            clear hq3
            replace HF := Lib.hid (HF.out.rk2 hk hr)
            clear hk hr
            (refine wpAnyH_take (i := 8) (oi := ?_) (v := ?_) ?_ (by kernel_rfl) (by kernel_rfl) (by kernel_rfl) ?_ (Or.inl ⟨?_, ?_⟩) (by assumption) ?_; rotate_left 2; (· (simp only [List.getElem?_toArray, List.getElem?_cons_succ, List.getElem?_cons_zero]; first | done | rfl)); (· exact (fun _ _ _ h => h)); (· rfl); (· (intro w hSw; (try dsimp only at hSw); go_simp; (try with_reducible rfl))))
            (try simp only [Act.put, List.setIfInBounds_toArray, List.set_cons_zero, List.set_cons_succ])
            refine wpAnyH_ready (rs := [9]) (by kernel_rfl) (by simp) ?_
            refine AllReadyH.cons (o := ?_) ?_ (fun K hK => ?_) AllReadyH.nil
            rotate_left 1
            · (simp only [List.getElem?_toArray, List.getElem?_cons_succ, List.getElem?_cons_zero]; first | done | rfl)
            go_simp
            first | (refine hK.out _ _ trivial (fun hq5 => ?_)) | (go_wp2_with fail; refine hK.out _ _ trivial (fun hq5 => ?_))
            clear hK K
            (try simp only [Act.put, List.setIfInBounds_toArray, List.set_cons_zero, List.set_cons_succ])
            clear hq4
            have hnw := new_condW D12 ⟨nm, (c3.toNat : Int), ⟨k1, n1, x1, u1, y1⟩⟩ 72
            have hb := balloc D12 (.cells #[.string ⟨nm.toArray⟩, .int .i64 (c3.toNat : Int), .int .i64 k1, .int .i64 n1, .float .f64 x1, .string ⟨u1.toArray⟩, .bool y1] 72)
            generalize hD : World.alloc D12 _ = D13 at *
            replace HF := Lib.hid (HF.out.below hb)
            have HSZ := Lib.hid hb.size
            have HNW := Lib.hid hnw
            clear hb hnw hD
            generalize D12.heap.size = pn at *
            refine wpAnyH_ready (rs := [10]) (by kernel_rfl) (by simp) ?_
            refine AllReadyH.cons (o := ?_) ?_ (fun K hK => ?_) AllReadyH.nil
            rotate_left 1
            · (simp only [List.getElem?_toArray, List.getElem?_cons_succ, List.getElem?_cons_zero]; first | done | rfl)
            refine wp_append_lies _ _ _ 24 rfl (q + 1) 72 i0 (.agg #[.string .empty, .int .i64 0, .int .i64 0, .int .i64 0, .float .f64 0, .string .empty, .bool false]) 7 72 Try.underlying24 hi hz0 hz1 hz2 rfl (by decide) v l.length (flatW l) rfl HF.out.own ⟨pn, 0, none⟩ 1 1 (flatW [⟨nm, (c3.toNat : Int), ⟨k1, n1, x1, u1, y1⟩⟩]) rfl rfl HNW.out (flatW_one _) (by decide) (by unfold maxLen; omega) (by omega) (Nat.succ_le_of_lt HF.out.qlt) D13.heap.size rfl ?_
            intro g9 cap9 D14 hown9 hgrow9 hat9 hlt9
            first | (refine hK.out _ _ trivial (fun hq6 => ?_)) | (go_wp2_with fail; refine hK.out _ _ trivial (fun hq6 => ?_))
            clear hK K
            (try simp only [Act.put, List.setIfInBounds_toArray, List.set_cons_zero, List.set_cons_succ])
            clear hq5
            have HPUT := Lib.hid (HF.out.put (c := ⟨nm, (c3.toNat : Int), ⟨k1, n1, x1, u1, y1⟩⟩) hown9 hgrow9); clear hown9 hgrow9 hat9 hlt9
            (refine wpAnyH_take (i := 11) (oi := ?_) (v := ?_) ?_ (by kernel_rfl) (by kernel_rfl) (by kernel_rfl) ?_ (Or.inl ⟨?_, ?_⟩) (by assumption) ?_; rotate_left 2; (· (simp only [List.getElem?_toArray, List.getElem?_cons_succ, List.getElem?_cons_zero]; first | done | rfl)); (· exact (fun _ _ _ h => h)); (· rfl); (· (intro w hSw; (try dsimp only at hSw); go_simp; (try with_reducible rfl))))
            (try simp only [Act.put, List.setIfInBounds_toArray, List.set_cons_zero, List.set_cons_succ])
            refine wpAnyH_ready (rs := [12]) (by kernel_rfl) (by simp) ?_
            refine AllReadyH.cons (o := ?_) ?_ (fun K hK => ?_) AllReadyH.nil
            rotate_left 1
            · (simp only [List.getElem?_toArray, List.getElem?_cons_succ, List.getElem?_cons_zero]; first | done | rfl)
            obtain ⟨⟨f1, f2⟩, hfs⟩ := HPUT.out
            go_simp
            first | (refine hK.out _ _ trivial (fun hq7 => ?_)) | (go_wp2_with fail; refine hK.out _ _ trivial (fun hq7 => ?_))
            clear hK K
            (try simp only [Act.put, List.setIfInBounds_toArray, List.set_cons_zero, List.set_cons_succ])
            clear hq6
            refine wpAnyH_done (by kernel_rfl) ?_ _
            go_wp2_with fail
            exact ⟨⟨l.length + 1, _, l ++ [⟨nm, (c3.toNat : Int), ⟨k1, n1, x1, u1, y1⟩⟩], t7, by omega, by go_num, by simp, Lib.hid (many_next hlt HM.out (cond_some hd3 hd5 hd7)), Lib.hid hfs⟩, by simp [RowKit.intOf]; go_num⟩
          · skip
            go_simp
            go_at_call 40
            refine (rvalue_any b _ D11 HF.out.rd).mono ?_
            rintro e D15 (⟨⟨k1, n1, x1, u1, y1⟩, t7, hd7, rfl, hr, hk⟩ | ⟨hd, rfl, hk⟩)
            rotate_left
            · clear hK
              go_wp2_with fail
              exact ⟨rfl, tookf_no (HDN.out (many_stop hlt HM.out (cond_none3 hd3 hd5 hd))) rfl (HF.out.rk.trans hk)⟩
            first | (refine hK.out _ _ trivial (fun hq3 => ?_)) | (go_wp2_with fail; refine hK.out _ _ trivial (fun hq3 => ?_))
            clear hK K
            clear hq2
            replace HF := Lib.hid (HF.out.rk2 hk hr)
            clear hk hr
            (refine wpAnyH_take (i := 8) (oi := ?_) (v := ?_) ?_ (by kernel_rfl) (by kernel_rfl) (by kernel_rfl) ?_ (Or.inl ⟨?_, ?_⟩) (by assumption) ?_; rotate_left 2; (· (simp only [List.getElem?_toArray, List.getElem?_cons_succ, List.getElem?_cons_zero]; first | done | rfl)); (· exact (fun _ _ _ h => h)); (· rfl); (· (intro w hSw; (try dsimp only at hSw); go_simp; (try with_reducible rfl))))
            (try simp only [Act.put, List.setIfInBounds_toArray, List.set_cons_zero, List.set_cons_succ])
            refine wpAnyH_ready (rs := [1, 9]) (by kernel_rfl) (by simp) ?_
            refine AllReadyH.cons (o := ?_) ?_ (fun K hK => ?_) ?_
            rotate_left 1
            · (simp only [List.getElem?_toArray, List.getElem?_cons_succ, List.getElem?_cons_zero]; first | done | rfl)
            rotate_left 1
            refine AllReadyH.cons (o := ?_) ?_ (fun K hK => ?_) AllReadyH.nil
            rotate_left 1
            · (simp only [List.getElem?_toArray, List.getElem?_cons_succ, List.getElem?_cons_zero]; first | done | rfl)
            rotate_left 1
            · skip
              obtain ⟨f0, f1, f2⟩ := HF.out.cells
              go_simp
              first | (refine hK.out _ _ trivial (fun hq4 => ?_)) | (go_wp2_with fail; refine hK.out _ _ trivial (fun hq4 => ?_))
              clear hK K
              (try simp only [Act.put, List.setIfInBounds_toArray, List.set_cons_zero, List.set_cons_succ])
              clear hq3
              clear f0 f1 f2
              refine wpAnyH_ready (rs := [9]) (by kernel_rfl) (by simp) ?_
              refine AllReadyH.cons (o := ?_) ?_ (fun K hK => ?_) AllReadyH.nil
              rotate_left 1
              · (simp only [List.getElem?_toArray, List.getElem?_cons_succ, List.getElem?_cons_zero]; first | done | rfl)
              go_simp
              first | (refine hK.out _ _ trivial (fun hq5 => ?_)) | (go_wp2_with fail; refine hK.out _ _ trivial (fun hq5 => ?_))
              clear hK K
              (try simp only [Act.put, List.setIfInBounds_toArray, List.set_cons_zero, List.set_cons_succ])
              clear hq4
              have hnw := new_condW D15 ⟨nm, (c3.toNat : Int), ⟨k1, n1, x1, u1, y1⟩⟩ 72
              have hb := balloc D15 (.cells #[.string ⟨nm.toArray⟩, .int .i64 (c3.toNat : Int), .int .i64 k1, .int .i64 n1, .float .f64 x1, .string ⟨u1.toArray⟩, .bool y1] 72)
              generalize hD : World.alloc D15 _ = D16 at *
              replace HF := Lib.hid (HF.out.below hb)
              have HSZ := Lib.hid hb.size
              have HNW := Lib.hid hnw
              clear hb hnw hD
              generalize D15.heap.size = pn at *
              refine wpAnyH_ready (rs := [10]) (by kernel_rfl) (by simp) ?_
              refine AllReadyH.cons (o := ?_) ?_ (fun K hK => ?_) AllReadyH.nil
              rotate_left 1
              · (simp only [List.getElem?_toArray, List.getElem?_cons_succ, List.getElem?_cons_zero]; first | done | rfl)
              refine wp_append_lies _ _ _ 24 rfl (q + 1) 72 i0 (.agg #[.string .empty, .int .i64 0, .int .i64 0, .int .i64 0, .float .f64 0, .string .empty, .bool false]) 7 72 Try.underlying24 hi hz0 hz1 hz2 rfl (by decide) v l.length (flatW l) rfl HF.out.own ⟨pn, 0, none⟩ 1 1 (flatW [⟨nm, (c3.toNat : Int), ⟨k1, n1, x1, u1, y1⟩⟩]) rfl rfl HNW.out (flatW_one _) (by decide) (by unfold maxLen; omega) (by omega) (Nat.succ_le_of_lt HF.out.qlt) D16.heap.size rfl ?_
              intro g9 cap9 D17 hown9 hgrow9 hat9 hlt9
              first | (refine hK.out _ _ trivial (fun hq6 => ?_)) | (go_wp2_with fail; refine hK.out _ _ trivial (fun hq6 => ?_))
              clear hK K
              (try simp only [Act.put, List.setIfInBounds_toArray, List.set_cons_zero, List.set_cons_succ])
              clear hq5
              have HPUT := Lib.hid (HF.out.put (c := ⟨nm, (c3.toNat : Int), ⟨k1, n1, x1, u1, y1⟩⟩) hown9 hgrow9); clear hown9 hgrow9 hat9 hlt9
              (refine wpAnyH_take (i := 11) (oi := ?_) (v := ?_) ?_ (by kernel_rfl) (by kernel_rfl) (by kernel_rfl) ?_ (Or.inl ⟨?_, ?_⟩) (by assumption) ?_; rotate_left 2; (· (simp only [List.getElem?_toArray, List.getElem?_cons_succ, List.getElem?_cons_zero]; first | done | rfl)); (· exact (fun _ _ _ h => h)); (· rfl); (· (intro w hSw; (try dsimp only at hSw); go_simp; (try with_reducible rfl))))
              (try simp only [Act.put, List.setIfInBounds_toArray, List.set_cons_zero, List.set_cons_succ])
              refine wpAnyH_ready (rs := [12]) (by kernel_rfl) (by simp) ?_
              refine AllReadyH.cons (o := ?_) ?_ (fun K hK => ?_) AllReadyH.nil
              rotate_left 1
              · (simp only [List.getElem?_toArray, List.getElem?_cons_succ, List.getElem?_cons_zero]; first | done | rfl)
              obtain ⟨⟨f1, f2⟩, hfs⟩ := HPUT.out
              go_simp
              first | (refine hK.out _ _ trivial (fun hq7 => ?_)) | (go_wp2_with fail; refine hK.out _ _ trivial (fun hq7 => ?_))
              clear hK K
              (try simp only [Act.put, List.setIfInBounds_toArray, List.set_cons_zero, List.set_cons_succ])
              clear hq6
              refine wpAnyH_done (by kernel_rfl) ?_ _
              go_wp2_with fail
              exact ⟨⟨l.length + 1, _, l ++ [⟨nm, (c3.toNat : Int), ⟨k1, n1, x1, u1, y1⟩⟩], t7, by omega, by go_num, by simp, Lib.hid (many_next hlt HM.out (cond_some hd3 hd5 hd7)), Lib.hid hfs⟩, by simp [RowKit.intOf]; go_num⟩
            · skip
              go_simp
              first | (refine hK.out _ _ trivial (fun hq4 => ?_)) | (go_wp2_with fail; refine hK.out _ _ trivial (fun hq4 => ?_))
              clear hK K
              (try simp only [Act.put, List.setIfInBounds_toArray, List.set_cons_zero, List.set_cons_succ])
              clear hq3
              have hnw := new_condW D15 ⟨nm, (c3.toNat : Int), ⟨k1, n1, x1, u1, y1⟩⟩ 72
              have hb := balloc D15 (.cells #[.string ⟨nm.toArray⟩, .int .i64 (c3.toNat : Int), .int .i64 k1, .int .i64 n1, .float .f64 x1, .string ⟨u1.toArray⟩, .bool y1] 72)
              generalize hD : World.alloc D15 _ = D18 at *
              replace HF := Lib.hid (HF.out.below hb)
              have HSZ := Lib.hid hb.size
              have HNW := Lib.hid hnw
              clear hb hnw hD
              generalize D15.heap.size = pn at *
              refine wpAnyH_ready (rs := [1]) (by kernel_rfl) (by simp) ?_
              refine AllReadyH.cons (o := ?_) ?_ (fun K hK => ?_) AllReadyH.nil
              rotate_left 1
              · (simp only [List.getElem?_toArray, List.getElem?_cons_succ, List.getElem?_cons_zero]; first | done | rfl)
              obtain ⟨f0, f1, f2⟩ := HF.out.cells
              go_simp
              first | (refine hK.out _ _ trivial (fun hq5 => ?_)) | (go_wp2_with fail; refine hK.out _ _ trivial (fun hq5 => ?_))
              clear hK K
              (try simp only [Act.put, List.setIfInBounds_toArray, List.set_cons_zero, List.set_cons_succ])
              clear hq4
              clear f0 f1 f2
              refine wpAnyH_ready (rs := [10]) (by kernel_rfl) (by simp) ?_
              refine AllReadyH.cons (o := ?_) ?_ (fun K hK => ?_) AllReadyH.nil
              rotate_left 1
              · (simp only [List.getElem?_toArray, List.getElem?_cons_succ, List.getElem?_cons_zero]; first | done | rfl)
              refine wp_append_lies _ _ _ 24 rfl (q + 1) 72 i0 (.agg #[.string .empty, .int .i64 0, .int .i64 0, .int .i64 0, .float .f64 0, .string .empty, .bool false]) 7 72 Try.underlying24 hi hz0 hz1 hz2 rfl (by decide) v l.length (flatW l) rfl HF.out.own ⟨pn, 0, none⟩ 1 1 (flatW [⟨nm, (c3.toNat : Int), ⟨k1, n1, x1, u1, y1⟩⟩]) rfl rfl HNW.out (flatW_one _) (by decide) (by unfold maxLen; omega) (by omega) (Nat.succ_le_of_lt HF.out.qlt) D18.heap.size rfl ?_
              intro g9 cap9 D19 hown9 hgrow9 hat9 hlt9
              first | (refine hK.out _ _ trivial (fun hq6 => ?_)) | (go_wp2_with fail; refine hK.out _ _ trivial (fun hq6 => ?_))
              clear hK K
              (try simp only [Act.put, List.setIfInBounds_toArray, List.set_cons_zero, List.set_cons_succ])
              clear hq5
              have HPUT := Lib.hid (HF.out.put (c := ⟨nm, (c3.toNat : Int), ⟨k1, n1, x1, u1, y1⟩⟩) hown9 hgrow9); clear hown9 hgrow9 hat9 hlt9
              (refine wpAnyH_take (i := 11) (oi := ?_) (v := ?_) ?_ (by kernel_rfl) (by kernel_rfl) (by kernel_rfl) ?_ (Or.inl ⟨?_, ?_⟩) (by assumption) ?_; rotate_left 2; (· (simp only [List.getElem?_toArray, List.getElem?_cons_succ, List.getElem?_cons_zero]; first | done | rfl)); (· exact (fun _ _ _ h => h)); (· rfl); (· (intro w hSw; (try dsimp only at hSw); go_simp; (try with_reducible rfl))))
              (try simp only [Act.put, List.setIfInBounds_toArray, List.set_cons_zero, List.set_cons_succ])
              refine wpAnyH_ready (rs := [12]) (by kernel_rfl) (by simp) ?_
              refine AllReadyH.cons (o := ?_) ?_ (fun K hK => ?_) AllReadyH.nil
              rotate_left 1
              · (simp only [List.getElem?_toArray, List.getElem?_cons_succ, List.getElem?_cons_zero]; first | done | rfl)
              obtain ⟨⟨f1, f2⟩, hfs⟩ := HPUT.out
              go_simp
              first | (refine hK.out _ _ trivial (fun hq7 => ?_)) | (go_wp2_with fail; refine hK.out _ _ trivial (fun hq7 => ?_))
              clear hK K
              (try simp only [Act.put, List.setIfInBounds_toArray, List.set_cons_zero, List.set_cons_succ])
              clear hq6
              refine wpAnyH_done (by kernel_rfl) ?_ _
              go_wp2_with fail
              exact ⟨⟨l.length + 1, _, l ++ [⟨nm, (c3.toNat : Int), ⟨k1, n1, x1, u1, y1⟩⟩], t7, by omega, by go_num, by simp, Lib.hid (many_next hlt HM.out (cond_some hd3 hd5 hd7)), Lib.hid hfs⟩, by simp [RowKit.intOf]; go_num⟩
    · have i1 : ¬ (l.length : Int) < (n : Int) := by omega
      obtain rfl : n = l.length := by omega
      have hdec := HDF.out _ _ (many_end HM.out)
      have HDEC := Lib.hid hdec
      obtain ⟨f0, f1, f2⟩ := HF.out.cells
      obtain ⟨a0, cap, rfl, hcap, hcn, hcs, hbl⟩ := own_condsW HF.out.own
      have x0 := HF.out.p0; have x1 := HF.out.p1; have xz := HF.out.pz
      have hpw := HF.out.qw
      clear HM HDN HDF hdec
      go_wp2_with fail
      have hend := HF.out
      obtain ⟨e0, e1⟩ := set2W wr w.heap.size (.string ⟨sf.toArray⟩) (.slice a0 l.length cap) (by rw [x0]; rfl) (by rw [x1]; rfl)
      refine bodyPost_ret (v := ev sf a0 l.length cap) (by simp [results, Try.results23, go_sem, e0, e1]; try rfl) rfl ?_
      refine .inl ⟨sf, l, rest, a0, cap, HDEC.out, rfl, hcap, ?_, fun a e => by have := hbl a e; omega, hcn, rd_far (rd_far hend.rd hend.bw) hend.bw, rk_far (rk_far hend.rk (Nat.le_refl _)) (Nat.le_refl _)⟩
      exact conds_keep hcs (fun a e p hp _ => (World.cell?_setCell_other _ _ _ _ (by intro e2; have := hbl a e; rw [← e2] at hp; simp at hp; omega)).trans (World.cell?_setCell_other _ _ _ _ (by intro e2; have := hbl a e; rw [← e2] at hp; simp at hp; omega)))
end Go.Proofs.Ytpbdgbejcdncgaa.Wire
end

section
/- A READER OF BYTES: an event. -/
namespace Go.Proofs.Ytpbdgbejcdncgaa.Wire
open Go.RowKit Flt Go.Proofs.Ytpbdgbejcdncgaa.Val Go.Lib
variable {B : Nat}
attribute [local go_sem] run_store_flt
def decAttr (s : List UInt8) : Option (A × List UInt8) := match decText s with
  | none => none
  | some (nm, t) => match decVal t with
    | none => none
    | some (v, r) => some (⟨nm, v⟩, r)
def decEvent (s : List UInt8) : Option ((List UInt8 × List A) × List UInt8) := match decText s with
  | none => none
  | some (sf, t) => match decByte t with
    | none => none
    | some (c, t2) => match decMany decAttr c.toNat t2 with
      | none => none
      | some (l, r) => if rightL l then some ((sf, l), r) else none
def cells6E (a : A) : List Value := [.string ⟨a.name.toArray⟩, .int .i64 a.val.kind, .int .i64 a.val.int, .float .f64 a.val.num, .string ⟨a.val.text.toArray⟩, .bool a.val.yes]
def flatE (l : List A) : List Value := l.flatMap cells6E
theorem attr_none1 {s : List UInt8} (h : decText s = none) : decAttr s = none := by unfold decAttr; rw [h]
theorem attr_none2 {s t nm : List UInt8} (h : decText s = some (nm, t)) (h2 : decVal t = none) : decAttr s = none := by unfold decAttr; rw [h]; dsimp only; rw [h2]
theorem attr_some {s t nm r : List UInt8} {v : V} (h : decText s = some (nm, t)) (h2 : decVal t = some (v, r)) : decAttr s = some (⟨nm, v⟩, r) := by unfold decAttr; rw [h]; dsimp only; rw [h2]
theorem flatE_at : ∀ (l : List A) (i j : Nat) (hi : i < l.length), j < 6 → (flatE l)[i * 6 + j]? = (cells6E l[i])[j]?
  | v :: l, 0, j, _, hj => by
    unfold flatE; rw [List.flatMap_cons, List.getElem?_append_left (by simp [cells6E]; omega)]; simp
  | v :: l, i + 1, j, hi, hj => by
    unfold flatE; rw [List.flatMap_cons, List.getElem?_append_right (by simp [cells6E]; omega)]
    have e : (i + 1) * 6 + j - (cells6E v).length = i * 6 + j := by simp [cells6E]; omega
    rw [e]
    exact flatE_at l i j (by simpa using hi) hj
theorem flatE_one (l : List A) : ∀ u ∈ flatE l, u.oneCell' = true := by
  intro u hu
  obtain ⟨v, _, hv⟩ := List.mem_flatMap.1 hu
  simp only [cells6E, List.mem_cons, List.not_mem_nil, or_false] at hv
  rcases hv with rfl | rfl | rfl | rfl | rfl | rfl <;> rfl
theorem info_attrE : (Try.prog.info? 76).map (fun i => (i.zero, i.size, i.bytes)) = some (some (.agg #[.string .empty, .int .i64 0, .int .i64 0, .float .f64 0, .string .empty, .bool false]), 6, 64) := by kernel_rfl
theorem new_attrE (w : World) (c : A) (e : TypeId) : ∀ j u, (flatE [c])[j]? = some u → (w.alloc (.cells #[.string ⟨c.name.toArray⟩, .int .i64 c.val.kind, .int .i64 c.val.int, .float .f64 c.val.num, .string ⟨c.val.text.toArray⟩, .bool c.val.yes] e)).cell? ((⟨w.heap.size, 0, none⟩ : Addr).add j) = some u := by
  intro j u hj
  have hadd : (⟨w.heap.size, 0, none⟩ : Addr).add j = ⟨w.heap.size, j, none⟩ := by unfold Addr.add; split <;> simp_all
  rw [hadd, World.cell?_alloc_at _ _ _ _ rfl]
  simpa [flatE, cells6E] using hj
theorem own_attrsE {w : World} {v : Value} {l : List A} {base : Nat} (h : w.ownsRow base 76 6 v l.length (flatE l)) :
    ∃ a0 cap, v = .slice a0 l.length cap ∧ l.length ≤ cap ∧ (a0 = none → cap = 0) ∧ Attrs w a0 l ∧ (∀ a, a0 = some a → base ≤ a.block) := by
  rcases h.2 with ⟨rfl, h0⟩ | ⟨g, cp, cur, rfl, hb, _, hn, _⟩
  · have : l = [] := List.eq_nil_of_length_eq_zero h0
    subst this
    exact ⟨none, 0, rfl, Nat.le_refl _, fun _ => rfl, fun i hi => absurd hi (Nat.not_lt_zero _), fun a e => by cases e⟩
  · refine ⟨some ⟨g, 0, none⟩, cp, rfl, hn, fun e => (by cases e), fun i hi => ⟨_, rfl, ?_⟩, fun a e => by injection e with e; rw [← e]; exact hb⟩
    have k : ∀ j (hj : j < 6), w.cell? ⟨g, i * 6 + j, none⟩ = (cells6E l[i])[j]? := by
      intro j hj
      have hm := flatE_at l i j hi hj
      have hc : (cells6E l[i])[j]? = some ((cells6E l[i])[j]'(by simpa [cells6E] using hj)) := by simp
      rw [hc] at hm ⊢
      have := h.cells rfl (i * 6 + j) _ hm
      have hadd : (⟨g, 0, none⟩ : Addr).add (i * 6 + j) = ⟨g, i * 6 + j, none⟩ := by unfold Addr.add; split <;> simp_all
      rw [← hadd]; exact this
    have hadd : (⟨g, 0, none⟩ : Addr).add (i * 6) = ⟨g, i * 6, none⟩ := by unfold Addr.add; split <;> simp_all
    rw [hadd]
    exact ⟨k 0 (by omega), k 1 (by omega), k 2 (by omega), k 3 (by omega), k 4 (by omega), k 5 (by omega)⟩
/-- a filter under way: its box at q, its row -/
structure ES (B : Nat) (w D : World) (b q : Nat) (sf : List UInt8) (v : Value) (l : List A) (r : List UInt8) : Prop where
  rd : RdAt D b B r
  rk : RK b w D
  c0 : D.cell? ⟨q, 0, none⟩ = some (.string ⟨sf.toArray⟩)
  c1 : D.cell? ⟨q, 1, none⟩ = some v
  z : ∀ o, D.frozen? ⟨q, o, none⟩ = false
  own : D.ownsRow (q + 1) 76 6 v l.length (flatE l)
  p0 : D.cell? ⟨w.heap.size, 0, none⟩ = some (.string ⟨#[]⟩)
  p1 : D.cell? ⟨w.heap.size, 1, none⟩ = some (.slice none 0 0)
  pz : ∀ o, D.frozen? ⟨w.heap.size, o, none⟩ = false
  qw : w.heap.size < q
  bw : b < w.heap.size
theorem ES.cells {w D : World} {b q : Nat} {sf : List UInt8} {v : Value} {l : List A} {r : List UInt8} (h : ES B w D b q sf v l r) : D.cell? ⟨q, 0, none⟩ = some (.string ⟨sf.toArray⟩) ∧ D.cell? ⟨q, 1, none⟩ = some v ∧ D.frozen? ⟨q, 1, none⟩ = false := ⟨h.c0, h.c1, h.z 1⟩
theorem ES.qlt {w D : World} {b q : Nat} {sf : List UInt8} {v : Value} {l : List A} {r : List UInt8} (h : ES B w D b q sf v l r) : q < D.heap.size := World.block_lt_of_cell? _ _ h.c0
theorem ES.rk2 {w D D2 : World} {b q : Nat} {sf : List UInt8} {v : Value} {l : List A} {r r2 : List UInt8} (h : ES B w D b q sf v l r) (hk : RK b D D2) (hr : RdAt D2 b B r2) : ES B w D2 b q sf v l r2 := by
  have hq := h.qlt
  have hne : q ≠ b := by have := h.qw; have := h.bw; omega
  have hpb : w.heap.size ≠ b := by have := h.bw; omega
  have hpd : w.heap.size < D.heap.size := World.block_lt_of_cell? _ _ h.p0
  exact ⟨hr, h.rk.trans hk, (hk.cell (p := ⟨q, 0, none⟩) hq hne).trans h.c0, (hk.cell (p := ⟨q, 1, none⟩) hq hne).trans h.c1, fun o => (hk.frozen (p := ⟨q, o, none⟩) hq hne).trans (h.z o), own_rk h.own hk (by have := h.qw; have := h.bw; omega), (hk.cell (p := ⟨w.heap.size, 0, none⟩) hpd hpb).trans h.p0, (hk.cell (p := ⟨w.heap.size, 1, none⟩) hpd hpb).trans h.p1, fun o => (hk.frozen (p := ⟨w.heap.size, o, none⟩) hpd hpb).trans (h.pz o), h.qw, h.bw⟩
theorem ES.below {w D D2 : World} {b q : Nat} {sf : List UInt8} {v : Value} {l : List A} {r : List UInt8} (h : ES B w D b q sf v l r) (hb : Below D.heap.size D D2) : ES B w D2 b q sf v l r :=
  h.rk2 (rk_below hb) (h.rd.below hb)
/-- behind the append, and the store -/
theorem ES.put {w D D2 : World} {b q g cap : Nat} {sf : List UInt8} {v : Value} {l : List A} {c : A} {r : List UInt8} (h : ES B w D b q sf v l r) (hown : D2.ownsRow (q + 1) 76 6 (.slice (some ⟨g, 0, none⟩) (l.length + 1) cap) (l.length + 1) (flatE l ++ flatE [c])) (hgrow : D.grownBy D2 v.ownBlock) :
    (D2.cell? ⟨q, 1, none⟩ = some v ∧ D2.frozen? ⟨q, 1, none⟩ = false) ∧ ES B w (D2.setCell ⟨q, 1, none⟩ (.slice (some ⟨g, 0, none⟩) (l.length + 1) cap)) b q sf (.slice (some ⟨g, 0, none⟩) (l.length + 1) cap) (l ++ [c]) r := by
  have hq := h.qlt
  have hrow : ∀ k, v.ownBlock = some k → q + 1 ≤ k := fun k hk => (h.own.lt k hk).1
  have hne : some q ≠ v.ownBlock := fun e => by have := hrow q e.symm; omega
  have hc0 := (hgrow.cell_far ⟨q, 0, none⟩ hq hne).trans h.c0
  have hc1 := (hgrow.cell_far ⟨q, 1, none⟩ hq hne).trans h.c1
  have hz := fun o => (hgrow.frozen_far ⟨q, o, none⟩ hq hne).trans (h.z o)
  have hbw := h.bw
  have hqw := h.qw
  have hbel : Below (q + 1) D D2 := Below.grown (Below.refl _ _) hgrow (by omega) hrow
  have hpd : w.heap.size < D.heap.size := World.block_lt_of_cell? _ _ h.p0
  have hpne : some w.heap.size ≠ v.ownBlock := fun e => by have := hrow _ e.symm; omega
  have hfar : ∀ o u, (D2.setCell ⟨q, 1, none⟩ u).cell? ⟨w.heap.size, o, none⟩ = D2.cell? ⟨w.heap.size, o, none⟩ := fun o u => World.cell?_setCell_other _ _ _ _ (by intro e; injection e with e1; omega)
  refine ⟨⟨hc1, hz 1⟩, ?_, ?_, ?_, ?_, ?_, ?_, (hfar 0 _).trans ((hgrow.cell_far ⟨w.heap.size, 0, none⟩ hpd hpne).trans h.p0), (hfar 1 _).trans ((hgrow.cell_far ⟨w.heap.size, 1, none⟩ hpd hpne).trans h.p1), fun o => by simpa using (hgrow.frozen_far ⟨w.heap.size, o, none⟩ hpd hpne).trans (h.pz o), hqw, hbw⟩
  · exact rd_far (h.rd.low (hbel.mono (by omega))) (by omega)
  · exact rk_far ⟨hgrow.os.trans h.rk.os, hgrow.tape.trans h.rk.tape, hgrow.output.trans h.rk.output, Nat.le_trans h.rk.size hgrow.size, fun p hp hne2 => (hgrow.block p (Nat.lt_of_lt_of_le hp h.rk.size) (fun e => by have := hrow p e.symm; omega)).trans (h.rk.block p hp hne2)⟩ (Nat.le_of_lt hqw)
  · exact (World.cell?_setCell_other _ _ _ _ (by intro e; injection e with _ e2; exact absurd e2 (by decide))).trans hc0
  · exact World.cell?_setCell_same _ _ _ hc1
  · intro o; simpa using hz o
  · have := ownsRow_setCell_below hown (a := ⟨q, 1, none⟩) (Nat.lt_succ_self q) (.slice (some ⟨g, 0, none⟩) (l.length + 1) cap)
    simpa [flatE] using this
theorem attrs_keep {W W2 : World} {a0 : Option Addr} {l : List A} (h : Attrs W a0 l) (hk : ∀ a, a0 = some a → ∀ p : Addr, p.block = a.block → p.block < W.heap.size → W2.cell? p = W.cell? p) : Attrs W2 a0 l := by
  intro i hi
  obtain ⟨a, e, h0, h1, h2, h3, h4, h5⟩ := h i hi
  have hab : (a.add (i * 6)).block = a.block := by unfold Addr.add; split <;> rfl
  have k := fun {p : Addr} {v : Value} (hp : p.block = a.block) (hc : W.cell? p = some v) => (hk a e p hp (World.block_lt_of_cell? _ _ hc)).trans hc
  exact ⟨a, e, k hab h0, k hab h1, k hab h2, k hab h3, k hab h4, k hab h5⟩
theorem back_small (x : Nat) (hx : x < 18446744073709551616) : (Ord.back x).1 < 18446744073709551616 := by
  unfold Ord.back
  split
  · decide
  · split
    · show 0 < 18446744073709551616; decide
    · exact Ord.backB_lt hx
/-- what is read is small -/
theorem decVal_small {s r : List UInt8} {v : V} (h : decVal s = some (v, r)) : v.text.length ≤ 40 ∧ v.num < 18446744073709551616 := by
  cases s with
  | nil => cases h
  | cons c t =>
    rw [decVal_cons] at h
    split at h
    · split at h
      · cases h
      · injection h with h; injection h with h1 h2; subst h1; exact ⟨by simp, Nat.zero_lt_of_lt (show 0 < 18446744073709551616 from by decide)⟩
    · split at h
      · split at h
        · cases h
        · rename_i x r2 hd
          split at h
          · injection h with h; injection h with h1 h2; subst h1
            refine ⟨by simp, ?_⟩
            have hx := (decLong_enc hd).2
            rcases back_small x hx with hb
            exact hb
          · cases h
      · split at h
        · split at h
          · cases h
          · split at h
            · rename_i hu
              injection h with h; injection h with h1 h2; subst h1; exact ⟨hu, Nat.zero_lt_of_lt (show 0 < 18446744073709551616 from by decide)⟩
            · cases h
        · split at h
          · split at h
            · cases h
            · split at h
              · injection h with h; injection h with h1 h2; subst h1; exact ⟨by simp, Nat.zero_lt_of_lt (show 0 < 18446744073709551616 from by decide)⟩
              · cases h
          · cases h
theorem decMany_all {α : Type} {f : List UInt8 → Option (α × List UInt8)} {Q : α → Prop} (hf : ∀ s a t, f s = some (a, t) → Q a) : ∀ (n : Nat) (s : List UInt8) (l : List α) (r : List UInt8), decMany f n s = some (l, r) → ∀ a ∈ l, Q a
  | 0, s, l, r, h => by
    unfold decMany at h
    injection h with h; injection h with h1 h2; subst h1
    intro a ha; cases ha
  | n + 1, s, l, r, h => by
    unfold decMany at h
    cases h1 : f s with
    | none => rw [h1] at h; cases h
    | some p =>
      obtain ⟨a, t⟩ := p
      rw [h1] at h
      dsimp only at h
      cases h2 : decMany f n t with
      | none => rw [h2] at h; cases h
      | some q =>
        obtain ⟨l2, r2⟩ := q
        rw [h2] at h
        injection h with h; injection h with h3 h4; subst h3
        intro x hx
        rcases List.mem_cons.1 hx with rfl | hx
        · exact hf _ _ _ h1
        · exact decMany_all hf n t l2 r2 h2 x hx
theorem decAttr_small {s r : List UInt8} {a : A} (h : decAttr s = some (a, r)) : a.name.length < 256 ∧ a.val.text.length ≤ 40 ∧ a.val.num < 18446744073709551616 := by
  unfold decAttr at h
  cases h1 : decText s with
  | none => rw [h1] at h; cases h
  | some p =>
    obtain ⟨nm, t⟩ := p
    rw [h1] at h
    dsimp only at h
    cases h2 : decVal t with
    | none => rw [h2] at h; cases h
    | some q =>
      obtain ⟨v, r2⟩ := q
      rw [h2] at h
      injection h with h; injection h with h3 h4; subst h3
      exact ⟨(decText_enc h1).2, decVal_small h2⟩
theorem attrs_small {n : Nat} {s r : List UInt8} {l : List A} (h : decMany decAttr n s = some (l, r)) : ∀ x ∈ l, x.name.length ≤ 140737488351232 ∧ x.val.text.length ≤ 140737488351232 := by
  intro x hx
  have := decMany_all (Q := fun a : A => a.name.length < 256 ∧ a.val.text.length ≤ 40 ∧ a.val.num < 18446744073709551616) (fun s a t h => decAttr_small h) n s l r h x hx
  omega
/-- what reading a filter tells -/
def TookE (B b : Nat) (w : World) (s : List UInt8) (e : Ending) (w' : World) : Prop :=
  (∃ (sf : List UInt8) (l : List A) (rest : List UInt8) (c0 : Option Addr) (cap : Nat), decEvent s = some ((sf, l), rest) ∧ e = .returned (ev sf c0 l.length cap) ∧ l.length ≤ cap ∧ Attrs w' c0 l ∧ (∀ a, c0 = some a → w.heap.size ≤ a.block) ∧ (c0 = none → cap = 0) ∧ RdAt w' b B rest ∧ RK b w w') ∨ (decEvent s = none ∧ e = shortP ∧ RK b w w')
theorem tooke_no {b : Nat} {w w' : World} {s : List UInt8} {e : Ending} (h1 : decEvent s = none) (h2 : e = shortP) (h3 : RK b w w') : TookE B b w s e w' := .inr ⟨h1, h2, h3⟩
theorem event_none {s t sf t2 : List UInt8} {c : UInt8} (h : decText s = some (sf, t)) (h2 : decByte t = some (c, t2)) (h3 : decMany decAttr c.toNat t2 = none) : decEvent s = none := by unfold decEvent; rw [h]; dsimp only; rw [h2]; dsimp only; rw [h3]
set_option maxRecDepth 20000 in
set_option maxHeartbeats 8000000 in
theorem revent_any (b : Nat) (s : List UInt8) (w : World) (h : RdAt w b B s) :
    Calls Try.prog 26 #[.pointer (some ⟨b, 0, none⟩)] w fun e w' => TookE B b w s e w' := by
  have hbw := h.lt
  have HH := Lib.hid (h.below (balloc w (.cells #[.string ⟨#[]⟩, .slice none 0 0] 31))); clear h
  obtain ⟨i0, hi, hz0, hz1, hz2⟩ := info_parts info_attrE
  go_enter Try.func26, Try.ntmps26
  go_wp2_with (first | (go_at_call 24; refine (rtext_any b s _ HH.out).mono ?_; rintro e w1 (⟨sf, t, hd, rfl, hr, hk⟩ | ⟨hd, rfl, hk⟩)) | (go_at_call 21; refine (rbyte_any b t _ (hr.below (balloc _ _))).mono ?_; rintro e w2 (⟨c, t2, hd2, rfl, hr2, hk2⟩ | ⟨hd2, rfl, hk2⟩)) | fail)
  rotate_left
  · exact ⟨rfl, tooke_no (by unfold decEvent; rw [hd]; dsimp only; rw [hd2]) rfl ((rk_below (balloc w _)).trans (hk.trans ((rk_below (balloc w1 _)).trans hk2)))⟩
  · exact ⟨rfl, tooke_no (by unfold decEvent; rw [hd]) rfl ((rk_below (balloc w _)).trans hk)⟩
  have hpw1 : w.heap.size < w1.heap.size := Nat.lt_of_lt_of_le (by simp) hk.size
  have hf0 : ES B w w2 b w1.heap.size sf (.slice none 0 0) [] t2 := by
    have hpa : ∀ o, w2.cell? ⟨w.heap.size, o, none⟩ = #[Value.string ⟨#[]⟩, .slice none 0 0][o]? := fun o => by
      rw [hk2.cell (p := ⟨w.heap.size, o, none⟩) (by simp; omega) (by simp; omega), World.cell?_alloc_lt _ _ _ hpw1, hk.cell (p := ⟨w.heap.size, o, none⟩) (by simp) (by simp; omega)]
      exact World.cell?_alloc_at _ _ _ _ rfl
    have hpz : ∀ o, w2.frozen? ⟨w.heap.size, o, none⟩ = false := fun o => by
      rw [hk2.frozen (p := ⟨w.heap.size, o, none⟩) (by simp; omega) (by simp; omega), World.frozen?_alloc_old w1 _ ⟨w.heap.size, o, none⟩ (Nat.ne_of_lt hpw1), hk.frozen (p := ⟨w.heap.size, o, none⟩) (by simp) (by simp; omega)]
      simp
    have hqa : ∀ o, w2.cell? ⟨w1.heap.size, o, none⟩ = #[Value.string ⟨sf.toArray⟩, .slice none 0 0][o]? := fun o => by
      rw [hk2.cell (p := ⟨w1.heap.size, o, none⟩) (by simp) (by simp; omega)]
      exact World.cell?_alloc_at _ _ _ _ rfl
    have hqz : ∀ o, w2.frozen? ⟨w1.heap.size, o, none⟩ = false := fun o => by
      rw [hk2.frozen (p := ⟨w1.heap.size, o, none⟩) (by simp) (by simp; omega)]
      simp
    exact ⟨hr2, (rk_below (balloc w _)).trans (hk.trans ((rk_below (balloc w1 _)).trans hk2)), hqa 0, hqa 1, hqz, World.ownsRow_nil _ _ _ _, hpa 0, hpa 1, hpz, hpw1, hbw⟩
  have HF0 := Lib.hid hf0
  clear hf0 hr hr2 hk hk2 HH
  generalize w1.heap.size = q at *
  have hc8 : c.toNat < 256 := c.toNat_lt
  have hdf : ∀ l r, decMany decAttr c.toNat t2 = some (l, r) → decEvent s = if rightL l then some ((sf, l), r) else none := fun l r h => by unfold decEvent; rw [hd]; dsimp only; rw [hd2]; dsimp only; rw [h]
  have hdn := fun h => event_none hd hd2 h
  have HDF := Lib.hid hdf; have HDN := Lib.hid hdn
  clear hdf hdn hd hd2
  generalize c.toNat = n at *
  generalize w2 = WE at *
  go_loopw [9] (fun vi wr => ∃ (k : Nat) (v : Value) (l : List A) (rest : List UInt8), k ≤ n ∧ vi = .int .i64 k ∧ l.length = k ∧ Hid (decMany decAttr n t2 = (decMany decAttr (n - k) rest).map fun p => (l ++ p.1, p.2)) ∧ Hid (ES B w wr b q sf v l rest)) (fun vi _ => n - (RowKit.intOf vi).toNat)
  case atStart => exact ⟨0, _, [], t2, Nat.zero_le _, rfl, rfl, Lib.hid (by simp), HF0⟩
  case round =>
    obtain ⟨k, v, l, rest, hk, rfl, hlk, HM, HF⟩ := hrel
    subst hlk
    by_cases hlt : l.length < n
    · have i1 : (l.length : Int) < (n : Int) := by omega
      go_upto_region 4 with fail
      clear HDF hbw
      refine wp_region_held_drew (S := fun _ => True) (by kernel_rfl) trivial (fun hq0 => ?_)
      replace HF := Lib.hid (HF.out.below (drew0 wr))
      generalize wr.drew = D0 at *
      (refine wpAnyH_take (i := 0) (oi := ?_) (v := ?_) ?_ (by kernel_rfl) (by kernel_rfl) (by kernel_rfl) ?_ (Or.inl ⟨?_, ?_⟩) (by assumption) ?_; rotate_left 2; (· (simp only [List.getElem?_toArray, List.getElem?_cons_zero]; first | done | rfl)); (· exact (fun _ _ _ h => h)); (· rfl); (· (intro w hSw; (try dsimp only at hSw); go_simp; (try with_reducible rfl))))
      (try simp only [Act.put, List.setIfInBounds_toArray, List.set_cons_zero, List.set_cons_succ])
      (refine wpAnyH_take (i := 2) (oi := ?_) (v := ?_) ?_ (by kernel_rfl) (by kernel_rfl) (by kernel_rfl) ?_ (Or.inl ⟨?_, ?_⟩) (by assumption) ?_; rotate_left 2; (· (simp only [List.getElem?_toArray, List.getElem?_cons_succ, List.getElem?_cons_zero]; first | done | rfl)); (· exact (fun _ _ _ h => h)); (· rfl); (· (intro w hSw; (try dsimp only at hSw); go_simp; (try with_reducible rfl))))
      (try simp only [Act.put, List.setIfInBounds_toArray, List.set_cons_zero, List.set_cons_succ])
      (refine wpAnyH_take (i := 4) (oi := ?_) (v := ?_) ?_ (by kernel_rfl) (by kernel_rfl) (by kernel_rfl) ?_ (Or.inl ⟨?_, ?_⟩) (by assumption) ?_; rotate_left 2; (· (simp only [List.getElem?_toArray, List.getElem?_cons_succ, List.getElem?_cons_zero]; first | done | rfl)); (· exact (fun _ _ _ h => h)); (· rfl); (· (intro w hSw; (try dsimp only at hSw); go_simp; (try with_reducible rfl))))
      (try simp only [Act.put, List.setIfInBounds_toArray, List.set_cons_zero, List.set_cons_succ])
      refine wpAnyH_ready (rs := [1, 3]) (by kernel_rfl) (by simp) ?_
      refine AllReadyH.cons (o := ?_) ?_ (fun K hK => ?_) ?_
      rotate_left 1
      · (simp only [List.getElem?_toArray, List.getElem?_cons_succ, List.getElem?_cons_zero]; first | done | rfl)
      rotate_left 1
      refine AllReadyH.cons (o := ?_) ?_ (fun K hK => ?_) AllReadyH.nil
      rotate_left 1
      · (simp only [List.getElem?_toArray, List.getElem?_cons_succ, List.getElem?_cons_zero]; first | done | rfl)
      rotate_left 1
      · skip
        obtain ⟨f0, f1, f2⟩ := HF.out.cells
        go_simp
        first | (refine hK.out _ _ trivial (fun hq1 => ?_)) | (go_wp2_with fail; refine hK.out _ _ trivial (fun hq1 => ?_))
        clear hK K
        (try simp only [Act.put, List.setIfInBounds_toArray, List.set_cons_zero, List.set_cons_succ])
        clear hq0
        clear f0 f1 f2
        refine wpAnyH_ready (rs := [3]) (by kernel_rfl) (by simp) ?_
        refine AllReadyH.cons (o := ?_) ?_ (fun K hK => ?_) AllReadyH.nil
        rotate_left 1
        · (simp only [List.getElem?_toArray, List.getElem?_cons_succ, List.getElem?_cons_zero]; first | done | rfl)
        go_simp
        go_at_call 24
        refine (rtext_any b _ D0 HF.out.rd).mono ?_
        rintro e D1 (⟨nm, t1, hd3, rfl, hr, hk⟩ | ⟨hd, rfl, hk⟩)
        rotate_left
        · clear hK
          go_wp2_with fail
          exact ⟨rfl, tooke_no (HDN.out (many_stop hlt HM.out (attr_none1 hd))) rfl (HF.out.rk.trans hk)⟩
        first | (refine hK.out _ _ trivial (fun hq2 => ?_)) | (go_wp2_with fail; refine hK.out _ _ trivial (fun hq2 => ?_))
        clear hK K
        clear hq1
        replace HF := Lib.hid (HF.out.rk2 hk hr)
        clear hk hr
        refine wpAnyH_ready (rs := [5]) (by kernel_rfl) (by simp) ?_
        refine AllReadyH.cons (o := ?_) ?_ (fun K hK => ?_) AllReadyH.nil
        rotate_left 1
        · (simp only [List.getElem?_toArray, List.getElem?_cons_succ, List.getElem?_cons_zero]; first | done | rfl)
        go_simp
        go_at_call 40
        refine (rvalue_any b _ D1 HF.out.rd).mono ?_
        rintro e D2 (⟨⟨k1, n1, x1, u1, y1⟩, t7, hd7, rfl, hr, hk⟩ | ⟨hd, rfl, hk⟩)
        rotate_left
        · clear hK
          go_wp2_with fail
          exact ⟨rfl, tooke_no (HDN.out (many_stop hlt HM.out (attr_none2 hd3 hd))) rfl (HF.out.rk.trans hk)⟩
        first | (refine hK.out _ _ trivial (fun hq3 => ?_)) | (go_wp2_with fail; refine hK.out _ _ trivial (fun hq3 => ?_))
        clear hK K
        clear hq2
        replace HF := Lib.hid (HF.out.rk2 hk hr)
        clear hk hr
        (refine wpAnyH_take (i := 6) (oi := ?_) (v := ?_) ?_ (by kernel_rfl) (by kernel_rfl) (by kernel_rfl) ?_ (Or.inl ⟨?_, ?_⟩) (by assumption) ?_; rotate_left 2; (· (simp only [List.getElem?_toArray, List.getElem?_cons_succ, List.getElem?_cons_zero]; first | done | rfl)); (· exact (fun _ _ _ h => h)); (· rfl); (· (intro w hSw; (try dsimp only at hSw); go_simp; (try with_reducible rfl))))
        (try simp only [Act.put, List.setIfInBounds_toArray, List.set_cons_zero, List.set_cons_succ])
        refine wpAnyH_ready (rs := [7]) (by kernel_rfl) (by simp) ?_
        refine AllReadyH.cons (o := ?_) ?_ (fun K hK => ?_) AllReadyH.nil
        rotate_left 1
        · (simp only [List.getElem?_toArray, List.getElem?_cons_succ, List.getElem?_cons_zero]; first | done | rfl)
        go_simp
        first | (refine hK.out _ _ trivial (fun hq4 => ?_)) | (go_wp2_with fail; refine hK.out _ _ trivial (fun hq4 => ?_))
        clear hK K
        (try simp only [Act.put, List.setIfInBounds_toArray, List.set_cons_zero, List.set_cons_succ])
        clear hq3
        have hnw := new_attrE D2 ⟨nm, ⟨k1, n1, x1, u1, y1⟩⟩ 76
        have hb := balloc D2 (.cells #[.string ⟨nm.toArray⟩, .int .i64 k1, .int .i64 n1, .float .f64 x1, .string ⟨u1.toArray⟩, .bool y1] 76)
        generalize hD : World.alloc D2 _ = D3 at *
        replace HF := Lib.hid (HF.out.below hb)
        have HSZ := Lib.hid hb.size
        have HNW := Lib.hid hnw
        clear hb hnw hD
        generalize D2.heap.size = pn at *
        refine wpAnyH_ready (rs := [8]) (by kernel_rfl) (by simp) ?_
        refine AllReadyH.cons (o := ?_) ?_ (fun K hK => ?_) AllReadyH.nil
        rotate_left 1
        · (simp only [List.getElem?_toArray, List.getElem?_cons_succ, List.getElem?_cons_zero]; first | done | rfl)
        refine wp_append_lies _ _ _ 29 rfl (q + 1) 76 i0 (.agg #[.string .empty, .int .i64 0, .int .i64 0, .float .f64 0, .string .empty, .bool false]) 6 64 Try.underlying29 hi hz0 hz1 hz2 rfl (by decide) v l.length (flatE l) rfl HF.out.own ⟨pn, 0, none⟩ 1 1 (flatE [⟨nm, ⟨k1, n1, x1, u1, y1⟩⟩]) rfl rfl HNW.out (flatE_one _) (by decide) (by unfold maxLen; omega) (by omega) (Nat.succ_le_of_lt HF.out.qlt) D3.heap.size rfl ?_
        intro g9 cap9 D4 hown9 hgrow9 hat9 hlt9
        first | (refine hK.out _ _ trivial (fun hq5 => ?_)) | (go_wp2_with fail; refine hK.out _ _ trivial (fun hq5 => ?_))
        clear hK K
        (try simp only [Act.put, List.setIfInBounds_toArray, List.set_cons_zero, List.set_cons_succ])
        clear hq4
        have HPUT := Lib.hid (HF.out.put (c := ⟨nm, ⟨k1, n1, x1, u1, y1⟩⟩) hown9 hgrow9); clear hown9 hgrow9 hat9 hlt9
        (refine wpAnyH_take (i := 9) (oi := ?_) (v := ?_) ?_ (by kernel_rfl) (by kernel_rfl) (by kernel_rfl) ?_ (Or.inl ⟨?_, ?_⟩) (by assumption) ?_; rotate_left 2; (· (simp only [List.getElem?_toArray, List.getElem?_cons_succ, List.getElem?_cons_zero]; first | done | rfl)); (· exact (fun _ _ _ h => h)); (· rfl); (· (intro w hSw; (try dsimp only at hSw); go_simp; (try with_reducible rfl))))
        (try simp only [Act.put, List.setIfInBounds_toArray, List.set_cons_zero, List.set_cons_succ])
        refine wpAnyH_ready (rs := [10]) (by kernel_rfl) (by simp) ?_
        refine AllReadyH.cons (o := ?_) ?_ (fun K hK => ?_) AllReadyH.nil
        rotate_left 1
        · (simp only [List.getElem?_toArray, List.getElem?_cons_succ, List.getElem?_cons_zero]; first | done | rfl)
        obtain ⟨⟨f1, f2⟩, hfs⟩ := HPUT.out
        go_simp
        first | (refine hK.out _ _ trivial (fun hq6 => ?_)) | (go_wp2_with fail; refine hK.out _ _ trivial (fun hq6 => ?_))
        clear hK K
        (try simp only [Act.put, List.setIfInBounds_toArray, List.set_cons_zero, List.set_cons_succ])
        clear hq5
        refine wpAnyH_done (by kernel_rfl) ?_ _
        go_wp2_with fail
        exact ⟨⟨l.length + 1, _, l ++ [⟨nm, ⟨k1, n1, x1, u1, y1⟩⟩], t7, by omega, by go_num, by simp, Lib.hid (many_next hlt HM.out (attr_some hd3 hd7)), Lib.hid hfs⟩, by simp [RowKit.intOf]; go_num⟩
      · skip
        go_simp
        go_at_call 24
        refine (rtext_any b _ D0 HF.out.rd).mono ?_
        rintro e D5 (⟨nm, t1, hd3, rfl, hr, hk⟩ | ⟨hd, rfl, hk⟩)
        rotate_left
        · clear hK
          go_wp2_with fail
          exact ⟨rfl, tooke_no (HDN.out (many_stop hlt HM.out (attr_none1 hd))) rfl (HF.out.rk.trans hk)⟩
        first | (refine hK.out _ _ trivial (fun hq1 => ?_)) | (go_wp2_with fail; refine hK.out _ _ trivial (fun hq1 => ?_))
        clear hK K
        clear hq0
        replace HF := Lib.hid (HF.out.rk2 hk hr)
        clear hk hr
        refine wpAnyH_ready (rs := [1, 5]) (by kernel_rfl) (by simp) ?_
        refine AllReadyH.cons (o := ?_) ?_ (fun K hK => ?_) ?_
        rotate_left 1
        · (simp only [List.getElem?_toArray, List.getElem?_cons_succ, List.getElem?_cons_zero]; first | done | rfl)
        rotate_left 1
        refine AllReadyH.cons (o := ?_) ?_ (fun K hK => ?_) AllReadyH.nil
        rotate_left 1
        · (simp only [List.getElem?_toArray, List.getElem?_cons_succ, List.getElem?_cons_zero]; first | done | rfl)
        rotate_left 1
        · skip
          obtain ⟨f0, f1, f2⟩ := HF.out.cells
          go_simp
          first | (refine hK.out _ _ trivial (fun hq2 => ?_)) | (go_wp2_with fail; refine hK.out _ _ trivial (fun hq2 => ?_))
          clear hK K
          (try simp only [Act.put, List.setIfInBounds_toArray, List.set_cons_zero, List.set_cons_succ])
          clear hq1
          clear f0 f1 f2
          refine wpAnyH_ready (rs := [5]) (by kernel_rfl) (by simp) ?_
          refine AllReadyH.cons (o := ?_) ?_ (fun K hK => ?_) AllReadyH.nil
          rotate_left 1
          · (simp only [List.getElem?_toArray, List.getElem?_cons_succ, List.getElem?_cons_zero]; first | done | rfl)
          go_simp
          go_at_call 40
          refine (rvalue_any b _ D5 HF.out.rd).mono ?_
          rintro e D6 (⟨⟨k1, n1, x1, u1, y1⟩, t7, hd7, rfl, hr, hk⟩ | ⟨hd, rfl, hk⟩)
          rotate_left
          · clear hK
            go_wp2_with fail
            exact ⟨rfl, tooke_no (HDN.out (many_stop hlt HM.out (attr_none2 hd3 hd))) rfl (HF.out.rk.trans hk)⟩
          first | (refine hK.out _ _ trivial (fun hq3 => ?_)) | (go_wp2_with fail; refine hK.out _ _ trivial (fun hq3 => ?_))
          clear hK K
          clear hq2
          replace HF := Lib.hid (HF.out.rk2 hk hr)
          clear hk hr
          (refine wpAnyH_take (i := 6) (oi := ?_) (v := ?_) ?_ (by kernel_rfl) (by kernel_rfl) (by kernel_rfl) ?_ (Or.inl ⟨?_, ?_⟩) (by assumption) ?_; rotate_left 2; (· (simp only [List.getElem?_toArray, List.getElem?_cons_succ, List.getElem?_cons_zero]; first | done | rfl)); (· exact (fun _ _ _ h => h)); (· rfl); (· (intro w hSw; (try dsimp only at hSw); go_simp; (try with_reducible rfl))))
          (try simp only [Act.put, List.setIfInBounds_toArray, List.set_cons_zero, List.set_cons_succ])
          refine wpAnyH_ready (rs := [7]) (by kernel_rfl) (by simp) ?_
          refine AllReadyH.cons (o := ?_) ?_ (fun K hK => ?_) AllReadyH.nil
          rotate_left 1
          · (simp only [List.getElem?_toArray, List.getElem?_cons_succ, List.getElem?_cons_zero]; first | done | rfl)
          go_simp
          first | (refine hK.out _ _ trivial (fun hq4 => ?_)) | (go_wp2_with fail; refine hK.out _ _ trivial (fun hq4 => ?_))
          clear hK K
          (try simp only [Act.put, List.setIfInBounds_toArray, List.set_cons_zero, List.set_cons_succ])
          clear hq3
          have hnw := new_attrE D6 ⟨nm, ⟨k1, n1, x1, u1, y1⟩⟩ 76
          have hb := balloc D6 (.cells #[.string ⟨nm.toArray⟩, .int .i64 k1, .int .i64 n1, .float .f64 x1, .string ⟨u1.toArray⟩, .bool y1] 76)
          generalize hD : World.alloc D6 _ = D7 at *
          replace HF := Lib.hid (HF.out.below hb)
          have HSZ := Lib.hid hb.size
          have HNW := Lib.hid hnw
          clear hb hnw hD
          generalize D6.heap.size = pn at *
          refine wpAnyH_ready (rs := [8]) (by kernel_rfl) (by simp) ?_
          refine AllReadyH.cons (o := ?_) ?_ (fun K hK => ?_) AllReadyH.nil
          rotate_left 1
          · (simp only [List.getElem?_toArray, List.getElem?_cons_succ, List.getElem?_cons_zero]; first | done | rfl)
          refine wp_append_lies _ _ _ 29 rfl (q + 1) 76 i0 (.agg #[.string .empty, .int .i64 0, .int .i64 0, .float .f64 0, .string .empty, .bool false]) 6 64 Try.underlying29 hi hz0 hz1 hz2 rfl (by decide) v l.length (flatE l) rfl HF.out.own ⟨pn, 0, none⟩ 1 1 (flatE [⟨nm, ⟨k1, n1, x1, u1, y1⟩⟩]) rfl rfl HNW.out (flatE_one _) (by decide) (by unfold maxLen; omega) (by omega) (Nat.succ_le_of_lt HF.out.qlt) D7.heap.size rfl ?_
          intro g9 cap9 D8 hown9 hgrow9 hat9 hlt9
          first | (refine hK.out _ _ trivial (fun hq5 => ?_)) | (go_wp2_with fail; refine hK.out _ _ trivial (fun hq5 => ?_))
          clear hK K
          (try simp only [Act.put, List.setIfInBounds_toArray, List.set_cons_zero, List.set_cons_succ])
          clear hq4
          have HPUT := Lib.hid (HF.out.put (c := ⟨nm, ⟨k1, n1, x1, u1, y1⟩⟩) hown9 hgrow9); clear hown9 hgrow9 hat9 hlt9
          (refine wpAnyH_take (i := 9) (oi := ?_) (v := ?_) ?_ (by kernel_rfl) (by kernel_rfl) (by kernel_rfl) ?_ (Or.inl ⟨?_, ?_⟩) (by assumption) ?_; rotate_left 2; (· (simp only [List.getElem?_toArray, List.getElem?_cons_succ, List.getElem?_cons_zero]; first | done | rfl)); (· exact (fun _ _ _ h => h)); (· rfl); (· (intro w hSw; (try dsimp only at hSw); go_simp; (try with_reducible rfl))))
          (try simp only [Act.put, List.setIfInBounds_toArray, List.set_cons_zero, List.set_cons_succ])
          refine wpAnyH_ready (rs := [10]) (by kernel_rfl) (by simp) ?_
          refine AllReadyH.cons (o := ?_) ?_ (fun K hK => ?_) AllReadyH.nil
          rotate_left 1
          · (simp only [List.getElem?_toArray, List.getElem?_cons_succ, List.getElem?_cons_zero]; first | done | rfl)
          obtain ⟨⟨f1, f2⟩, hfs⟩ := HPUT.out
          go_simp
          first | (refine hK.out _ _ trivial (fun hq6 => ?_)) | (go_wp2_with fail; refine hK.out _ _ trivial (fun hq6 => ?_))
          clear hK K
          (try simp only [Act.put, List.setIfInBounds_toArray, List.set_cons_zero, List.set_cons_succ])
          clear hq5
          refine wpAnyH_done (by kernel_rfl) ?_ _
          go_wp2_with fail
          exact ⟨⟨l.length + 1, _, l ++ [⟨nm, ⟨k1, n1, x1, u1, y1⟩⟩], t7, by omega, by go_num, by simp, Lib.hid (many_next hlt HM.out (attr_some hd3 hd7)), Lib.hid hfs⟩, by simp [RowKit.intOf]; go_num⟩
        · skip
          go_simp
          go_at_call 40
          refine (rvalue_any b _ D5 HF.out.rd).mono ?_
          rintro e D9 (⟨⟨k1, n1, x1, u1, y1⟩, t7, hd7, rfl, hr, hk⟩ | ⟨hd, rfl, hk⟩)
          rotate_left
          · clear hK
            go_wp2_with fail
            exact ⟨rfl, tooke_no (HDN.out (many_stop hlt HM.out (attr_none2 hd3 hd))) rfl (HF.out.rk.trans hk)⟩
          first | (refine hK.out _ _ trivial (fun hq2 => ?_)) | (go_wp2_with fail; refine hK.out _ _ trivial (fun hq2 => ?_))
          clear hK K
          clear hq1
          replace HF := Lib.hid (HF.out.rk2 hk hr)
          clear hk hr
          (refine wpAnyH_take (i := 6) (oi := ?_) (v := ?_) ?_ (by kernel_rfl) (by kernel_rfl) (by kernel_rfl) ?_ (Or.inl ⟨?_, ?_⟩) (by assumption) ?_; rotate_left 2; (· (simp only [List.getElem?_toArray, List.getElem?_cons_succ, List.getElem?_cons_zero]; first | done | rfl)); (· exact (fun _ _ _ h => h)); (· rfl); (· (intro w hSw; (try dsimp only at hSw); go_simp; (try with_reducible rfl))))
          (try simp only [Act.put, List.setIfInBounds_toArray, List.set_cons_zero, List.set_cons_succ])
          refine wpAnyH_ready (rs := [1, 7]) (by kernel_rfl) (by simp) ?_
          refine AllReadyH.cons (o := ?_) ?_ (fun K hK => ?_) ?_
          rotate_left 1
          · (simp only [List.getElem?_toArray, List.getElem?_cons_succ, List.getElem?_cons_zero]; first | done | rfl)
          rotate_left 1
          refine AllReadyH.cons (o := ?_) ?_ (fun K hK => ?_) AllReadyH.nil
          rotate_left 1
          · (simp only [List.getElem?_toArray, List.getElem?_cons_succ, List.getElem?_cons_zero]; first | done | rfl)
          rotate_left 1
          · skip
            obtain ⟨f0, f1, f2⟩ := HF.out.cells
            go_simp
            first | (refine hK.out _ _ trivial (fun hq3 => ?_)) | (go_wp2_with fail; refine hK.out _ _ trivial (fun hq3 => ?_))
            clear hK K
            (try simp only [Act.put, List.setIfInBounds_toArray, List.set_cons_zero, List.set_cons_succ])
            clear hq2
            clear f0 f1 f2
            refine wpAnyH_ready (rs := [7]) (by kernel_rfl) (by simp) ?_
            refine AllReadyH.cons (o := ?_) ?_ (fun K hK => ?_) AllReadyH.nil
            rotate_left 1
            · (simp only [List.getElem?_toArray, List.getElem?_cons_succ, List.getElem?_cons_zero]; first | done | rfl)
            go_simp
            first | (refine hK.out _ _ trivial (fun hq4 => ?_)) | (go_wp2_with fail; refine hK.out _ _ trivial (fun hq4 => ?_))
            clear hK K
            (try simp only [Act.put, List.setIfInBounds_toArray, List.set_cons_zero, List.set_cons_succ])
            clear hq3
            have hnw := new_attrE D9 ⟨nm, ⟨k1, n1, x1, u1, y1⟩⟩ 76
            have hb := balloc D9 (.cells #[.string ⟨nm.toArray⟩, .int .i64 k1, .int .i64 n1, .float .f64 x1, .string ⟨u1.toArray⟩, .bool y1] 76)
            generalize hD : World.alloc D9 _ = D10 at *
            replace HF := Lib.hid (HF.out.below hb)
            have HSZ := Lib.hid hb.size
            have HNW := Lib.hid hnw
            clear hb hnw hD
            generalize D9.heap.size = pn at *
            refine wpAnyH_ready (rs := [8]) (by kernel_rfl) (by simp) ?_
            refine AllReadyH.cons (o := ?_) ?_ (fun K hK => ?_) AllReadyH.nil
            rotate_left 1
            · (simp only [List.getElem?_toArray, List.getElem?_cons_succ, List.getElem?_cons_zero]; first | done | rfl)
            refine wp_append_lies _ _ _ 29 rfl (q + 1) 76 i0 (.agg #[.string .empty, .int .i64 0, .int .i64 0, .float .f64 0, .string .empty, .bool false]) 6 64 Try.underlying29 hi hz0 hz1 hz2 rfl (by decide) v l.length (flatE l) rfl HF.out.own ⟨pn, 0, none⟩ 1 1 (flatE [⟨nm, ⟨k1, n1, x1, u1, y1⟩⟩]) rfl rfl HNW.out (flatE_one _) (by decide) (by unfold maxLen; omega) (by omega) (Nat.succ_le_of_lt HF.out.qlt) D10.heap.size rfl ?_
            intro g9 cap9 D11 hown9 hgrow9 hat9 hlt9
            first | (refine hK.out _ _ trivial (fun hq5 => ?_)) | (go_wp2_with fail; refine hK.out _ _ trivial (fun hq5 => ?_))
            clear hK K
            (try simp only [Act.put, List.setIfInBounds_toArray, List.set_cons_zero, List.set_cons_succ])
            clear hq4
            have HPUT := Lib.hid (HF.out.put (c := ⟨nm, ⟨k1, n1, x1, u1, y1⟩⟩) hown9 hgrow9); clear hown9 hgrow9 hat9 hlt9
            (refine wpAnyH_take (i := 9) (oi := ?_) (v := ?_) ?_ (by kernel_rfl) (by kernel_rfl) (by kernel_rfl) ?_ (Or.inl ⟨?_, ?_⟩) (by assumption) ?_; rotate_left 2; (· (simp only [List.getElem?_toArray, List.getElem?_cons_succ, List.getElem?_cons_zero]; first | done | rfl)); (· exact (fun _ _ _ h => h)); (· rfl); (· (intro w hSw; (try dsimp only at hSw); go_simp; (try with_reducible rfl))))
            (try simp only [Act.put, List.setIfInBounds_toArray, List.set_cons_zero, List.set_cons_succ])
            refine wpAnyH_ready (rs := [10]) (by kernel_rfl) (by simp) ?_
            refine AllReadyH.cons (o := ?_) ?_ (fun K hK => ?_) AllReadyH.nil
            rotate_left 1
            · (simp only [List.getElem?_toArray, List.getElem?_cons_succ, List.getElem?_cons_zero]; first | done | rfl)
            obtain ⟨⟨f1, f2⟩, hfs⟩ := HPUT.out
            go_simp
            first | (refine hK.out _ _ trivial (fun hq6 => ?_)) | (go_wp2_with fail; refine hK.out _ _ trivial (fun hq6 => ?_))
            clear hK K
            (try simp only [Act.put, List.setIfInBounds_toArray, List.set_cons_zero, List.set_cons_succ])
            clear hq5
            refine wpAnyH_done (by kernel_rfl) ?_ _
            go_wp2_with fail
            exact ⟨⟨l.length + 1, _, l ++ [⟨nm, ⟨k1, n1, x1, u1, y1⟩⟩], t7, by omega, by go_num, by simp, Lib.hid (many_next hlt HM.out (attr_some hd3 hd7)), Lib.hid hfs⟩, by simp [RowKit.intOf]; go_num⟩
          · skip
            go_simp
            first | (refine hK.out _ _ trivial (fun hq3 => ?_)) | (go_wp2_with fail; refine hK.out _ _ trivial (fun hq3 => ?_))
            clear hK K
            (try simp only [Act.put, List.setIfInBounds_toArray, List.set_cons_zero, List.set_cons_succ])
            clear hq2
            have hnw := new_attrE D9 ⟨nm, ⟨k1, n1, x1, u1, y1⟩⟩ 76
            have hb := balloc D9 (.cells #[.string ⟨nm.toArray⟩, .int .i64 k1, .int .i64 n1, .float .f64 x1, .string ⟨u1.toArray⟩, .bool y1] 76)
            generalize hD : World.alloc D9 _ = D12 at *
            replace HF := Lib.hid (HF.out.below hb)
            have HSZ := Lib.hid hb.size
            have HNW := Lib.hid hnw
            clear hb hnw hD
            generalize D9.heap.size = pn at *
            refine wpAnyH_ready (rs := [1]) (by kernel_rfl) (by simp) ?_
            refine AllReadyH.cons (o := ?_) ?_ (fun K hK => ?_) AllReadyH.nil
            rotate_left 1
            · (simp only [List.getElem?_toArray, List.getElem?_cons_succ, List.getElem?_cons_zero]; first | done | rfl)
            obtain ⟨f0, f1, f2⟩ := HF.out.cells
            go_simp
            first | (refine hK.out _ _ trivial (fun hq4 => ?_)) | (go_wp2_with fail; refine hK.out _ _ trivial (fun hq4 => ?_))
            clear hK K
            (try simp only [Act.put, List.setIfInBounds_toArray, List.set_cons_zero, List.set_cons_succ])
            clear hq3
            clear f0 f1 f2
            refine wpAnyH_ready (rs := [8]) (by kernel_rfl) (by simp) ?_
            refine AllReadyH.cons (o := ?_) ?_ (fun K hK => ?_) AllReadyH.nil
            rotate_left 1
            · (simp only [List.getElem?_toArray, List.getElem?_cons_succ, List.getElem?_cons_zero]; first | done | rfl)
            refine wp_append_lies _ _ _ 29 rfl (q + 1) 76 i0 (.agg #[.string .empty, .int .i64 0, .int .i64 0, .float .f64 0, .string .empty, .bool false]) 6 64 Try.underlying29 hi hz0 hz1 hz2 rfl (by decide) v l.length (flatE l) rfl HF.out.own ⟨pn, 0, none⟩ 1 1 (flatE [⟨nm, ⟨k1, n1, x1, u1, y1⟩⟩]) rfl rfl HNW.out (flatE_one _) (by decide) (by unfold maxLen; omega) (by omega) (Nat.succ_le_of_lt HF.out.qlt) D12.heap.size rfl ?_
            intro g9 cap9 D13 hown9 hgrow9 hat9 hlt9
            first | (refine hK.out _ _ trivial (fun hq5 => ?_)) | (go_wp2_with fail; refine hK.out _ _ trivial (fun hq5 => ?_))
            clear hK K
            (try simp only [Act.put, List.setIfInBounds_toArray, List.set_cons_zero, List.set_cons_succ])
            clear hq4
            have HPUT := Lib.hid (HF.out.put (c := ⟨nm, ⟨k1, n1, x1, u1, y1⟩⟩) hown9 hgrow9); clear hown9 hgrow9 hat9 hlt9
            (refine wpAnyH_take (i := 9) (oi := ?_) (v := ?_) ?_ (by kernel_rfl) (by kernel_rfl) (by kernel_rfl) ?_ (Or.inl ⟨?_, ?_⟩) (by assumption) ?_; rotate_left 2; (· (simp only [List.getElem?_toArray, List.getElem?_cons_succ, List.getElem?_cons_zero]; first | done | rfl)); (· exact (fun _ _ _ h => h)); (· rfl); (· (intro w hSw; (try dsimp only at hSw); go_simp; (try with_reducible rfl))))
            (try simp only [Act.put, List.setIfInBounds_toArray, List.set_cons_zero, List.set_cons_succ])
            refine wpAnyH_ready (rs := [10]) (by kernel_rfl) (by simp) ?_
            refine AllReadyH.cons (o := ?_) ?_ (fun K hK => ?_) AllReadyH.nil
            rotate_left 1
            · (simp only [List.getElem?_toArray, List.getElem?_cons_succ, List.getElem?_cons_zero]; first | done | rfl)
            obtain ⟨⟨f1, f2⟩, hfs⟩ := HPUT.out
            go_simp
            first | (refine hK.out _ _ trivial (fun hq6 => ?_)) | (go_wp2_with fail; refine hK.out _ _ trivial (fun hq6 => ?_))
            clear hK K
            (try simp only [Act.put, List.setIfInBounds_toArray, List.set_cons_zero, List.set_cons_succ])
            clear hq5
            refine wpAnyH_done (by kernel_rfl) ?_ _
            go_wp2_with fail
            exact ⟨⟨l.length + 1, _, l ++ [⟨nm, ⟨k1, n1, x1, u1, y1⟩⟩], t7, by omega, by go_num, by simp, Lib.hid (many_next hlt HM.out (attr_some hd3 hd7)), Lib.hid hfs⟩, by simp [RowKit.intOf]; go_num⟩
    · have i1 : ¬ (l.length : Int) < (n : Int) := by omega
      obtain rfl : n = l.length := by omega
      have hdec := HDF.out _ _ (many_end HM.out)
      have HDEC := Lib.hid hdec
      obtain ⟨f0, f1, f2⟩ := HF.out.cells
      obtain ⟨a0, cap, rfl, hcap, hcn, hcs, hbl⟩ := own_attrsE HF.out.own
      have x0 := HF.out.p0; have x1 := HF.out.p1; have xz := HF.out.pz
      have hpw := HF.out.qw
      have HM2 := Lib.hid (many_end HM.out)
      clear HM HDN HDF hdec
      have hlen : ∀ x ∈ l, x.name.length ≤ 140737488351232 ∧ x.val.text.length ≤ 140737488351232 := attrs_small HM2.out
      have her := fun W (hb : Below wr.heap.size wr W) => eright_any sf a0 cap l W (hcs.below hb) (by omega) hlen
      have HER := Lib.hid her; clear her hlen
      cases hR : rightL l
      · rw [hR] at HER HDEC
        go_wp2_with (first | (go_at_call 36; refine (HER.out _ (Below.refl _ _)).mono ?_; rintro e w9 ⟨rfl, hb9⟩) | fail)
        exact ⟨rfl, tooke_no HDEC.out rfl (HF.out.rk.trans (rk_below hb9))⟩
      rw [hR] at HER HDEC
      go_wp2_with (first | (go_at_call 36; refine (HER.out _ (Below.refl _ _)).mono ?_; rintro e w9 ⟨rfl, hb9⟩; obtain ⟨g0, g1, g2⟩ := (HF.out.below hb9).cells; have z0 := (HF.out.below hb9).p0; have z1 := (HF.out.below hb9).p1; have zz := (HF.out.below hb9).pz) | fail)
      have hend := HF.out.below hb9
      have hcs9 := hcs.below hb9
      obtain ⟨e0, e1⟩ := set2W w9 w.heap.size (.string ⟨sf.toArray⟩) (.slice a0 l.length cap) (by rw [z0]; rfl) (by rw [z1]; rfl)
      refine bodyPost_ret (v := ev sf a0 l.length cap) (by simp [results, Try.results26, go_sem, e0, e1]; try rfl) rfl ?_
      refine .inl ⟨sf, l, rest, a0, cap, HDEC.out, rfl, hcap, ?_, fun a e => by have := hbl a e; omega, hcn, rd_far (rd_far hend.rd hend.bw) hend.bw, rk_far (rk_far hend.rk (Nat.le_refl _)) (Nat.le_refl _)⟩
      exact attrs_keep hcs9 (fun a e p hp _ => (World.cell?_setCell_other _ _ _ _ (by intro e2; have := hbl a e; rw [← e2] at hp; simp at hp; omega)).trans (World.cell?_setCell_other _ _ _ _ (by intro e2; have := hbl a e; rw [← e2] at hp; simp at hp; omega)))
end Go.Proofs.Ytpbdgbejcdncgaa.Wire
end

section
/- A WRITER OF BYTES: the bytes of rules, events, messages. -/
namespace Go.Proofs.Ytpbdgbejcdncgaa.Wire
open Go.RowKit Flt Go.Proofs.Ytpbdgbejcdncgaa.Val Go.Lib
attribute [local go_sem] run_store_flt
/-- what a function that lays bytes answers -/
def Lays (w : World) (s : List UInt8) (e : Ending) (w' : World) : Prop := (∃ a0 cap, e = .returned (.slice a0 s.length cap) ∧ s.length ≤ cap ∧ cap ≤ maxLen ∧ BytesAt w' a0 s) ∧ Below w.heap.size w w'
theorem wr_new2 (w : World) (o : Obj) (T : TypeId) : Wr ((w.alloc o).alloc (.cells #[.slice none 0 0] T)) (w.heap.size + 1) [] := by
  have := wr_new (w.alloc o) (T := T)
  rwa [show (w.alloc o).heap.size = w.heap.size + 1 from by simp] at this
set_option maxRecDepth 20000 in
set_option maxHeartbeats 8000000 in
theorem eventb_any (sc : List UInt8) (a0 : Option Addr) (cap : Nat) (l : List A) (w : World) (hcl : Attrs w a0 l) (hnum : ∀ c ∈ l, c.val.num < 18446744073709551616) (hl : (encEvent sc l).length ≤ 1000000) (hlm : l.length ≤ 1000000) :
    Calls Try.prog 16 #[ev sc a0 l.length cap] w fun e w' => Lays w (encEvent sc l) e w' := by
  have HCL := Lib.hid hcl; have HNUM := Lib.hid hnum
  clear hcl hnum
  go_enter Try.func16, Try.ntmps16
  go_upto_region 2 with fail
  have HWR := Lib.hid (wr_new2 w (.cells #[.string ⟨sc.toArray⟩, .slice a0 l.length cap] 31) 45)
  have hbl := balloc2 w (.cells #[.string ⟨sc.toArray⟩, .slice a0 l.length cap] 31) (.cells #[.slice none 0 0] 45)
  have hx0 : ((w.alloc (.cells #[.string ⟨sc.toArray⟩, .slice a0 l.length cap] 31)).alloc (.cells #[.slice none 0 0] 45)).cell? ⟨w.heap.size, 0, none⟩ = some (.string ⟨sc.toArray⟩) := by simp
  have hx1 : ((w.alloc (.cells #[.string ⟨sc.toArray⟩, .slice a0 l.length cap] 31)).alloc (.cells #[.slice none 0 0] 45)).cell? ⟨w.heap.size, 1, none⟩ = some (.slice a0 l.length cap) := by simp
  generalize World.alloc (World.alloc w _) _ = W2 at *
  obtain ⟨b, hb⟩ : ∃ b, w.heap.size + 1 = b := ⟨_, rfl⟩
  have hle : w.heap.size ≤ b := by omega
  rw [hb] at HWR ⊢
  have HBL := Lib.hid hbl; clear hbl hb
  go_wp2_with (first | (go_at_call 33; refine (wevent_any b _ sc a0 cap l _ w HWR.out HCL.out HBL.out hle HNUM.out (by simp only [List.length_nil, Nat.zero_add]; omega) hlm).mono ?_; rintro e w5 ⟨rfl, hw5, ht5⟩; have HB5 := Lib.hid (HBL.out.trans (ht5.below HWR.out hle)); replace HWR := Lib.hid hw5; clear hw5 ht5) | (go_at_call 15; refine (wbytes_any b _ _ HWR.out (by simp only [List.nil_append]; omega)).mono ?_; rintro e w9 ⟨⟨a9, c9, rfl, h91, h92, h93⟩, hb9⟩) | fail)
  go_ret
  exact ⟨⟨a9, c9, rfl, h91, h92, h93⟩, btrans HB5.out hb9⟩
set_option maxRecDepth 20000 in
set_option maxHeartbeats 8000000 in
theorem ruleb_any (r : Pol.R) (cs : List C) (w : World) (hcl : Conds w r.c0 cs) (hcn : r.cn = cs.length) (hnum : ∀ c ∈ cs, c.val.num < 18446744073709551616) (hl : (encRule r cs).length ≤ 1000000) (hlm : cs.length ≤ 1000000) :
    Calls Try.prog 9 #[Pol.rv r] w fun e w' => Lays w (encRule r cs) e w' := by
  obtain ⟨⟨kd, tn, who, pl⟩, br, sc, c0, cn, cc, nm⟩ := r
  dsimp only at *
  subst hcn
  have hput := fun (b : Nat) (W : World) (hw : Wr W b []) (hb0 : Below w.heap.size w W) (hle : w.heap.size ≤ b) => wrule_any b [] ⟨⟨kd, tn, who, pl⟩, br, sc, c0, cs.length, cc, nm⟩ cs W w hw hcl rfl hb0 hle hnum (by simpa using hl) hlm
  have HPUT := Lib.hid hput
  clear hcl hnum hput
  go_enter Try.func9, Try.ntmps9
  go_upto_region 2 with fail
  have HWR := Lib.hid (wr_new2 w (.cells #[.int .i64 kd, .int .i64 tn, .string ⟨who.toArray⟩, .int .i64 br, .string ⟨sc.toArray⟩, .slice c0 cs.length cc, .string ⟨nm.toArray⟩, .int .i64 pl] 28) 45)
  have hbl := balloc2 w (.cells #[.int .i64 kd, .int .i64 tn, .string ⟨who.toArray⟩, .int .i64 br, .string ⟨sc.toArray⟩, .slice c0 cs.length cc, .string ⟨nm.toArray⟩, .int .i64 pl] 28) (.cells #[.slice none 0 0] 45)
  have hx : ∀ o, ((w.alloc (.cells #[.int .i64 kd, .int .i64 tn, .string ⟨who.toArray⟩, .int .i64 br, .string ⟨sc.toArray⟩, .slice c0 cs.length cc, .string ⟨nm.toArray⟩, .int .i64 pl] 28)).alloc (.cells #[.slice none 0 0] 45)).cell? ⟨w.heap.size, o, none⟩ = #[.int .i64 kd, .int .i64 tn, .string ⟨who.toArray⟩, .int .i64 br, .string ⟨sc.toArray⟩, .slice c0 cs.length cc, .string ⟨nm.toArray⟩, .int .i64 pl][o]? := fun o => by
    rw [World.cell?_alloc_lt _ _ _ (by simp)]; exact World.cell?_alloc_at _ _ _ _ rfl
  generalize World.alloc (World.alloc w _) _ = W2 at *
  obtain ⟨b, hb⟩ : ∃ b, w.heap.size + 1 = b := ⟨_, rfl⟩
  have hle : w.heap.size ≤ b := by omega
  rw [hb] at HWR ⊢
  have x0 := hx 0; have x1 := hx 1; have x2 := hx 2; have x3 := hx 3; have x4 := hx 4; have x5 := hx 5; have x6 := hx 6; have x7 := hx 7
  have HBL := Lib.hid hbl; clear hbl hb hx
  go_wp2_with (first | (go_at_call 30; refine (HPUT.out b _ HWR.out HBL.out hle).mono ?_; rintro e w5 ⟨rfl, hw5, ht5⟩; have HB5 := Lib.hid (HBL.out.trans (ht5.below HWR.out hle)); replace HWR := Lib.hid hw5; clear hw5 ht5) | (go_at_call 15; refine (wbytes_any b _ _ HWR.out (by simp only [List.nil_append]; omega)).mono ?_; rintro e w9 ⟨⟨a9, c9, rfl, h91, h92, h93⟩, hb9⟩) | fail)
  go_ret
  exact ⟨⟨a9, c9, rfl, h91, h92, h93⟩, btrans HB5.out hb9⟩
end Go.Proofs.Ytpbdgbejcdncgaa.Wire
end

section
/- A WRITER OF BYTES: messages. -/
namespace Go.Proofs.Ytpbdgbejcdncgaa.Wire
open Go.RowKit Flt Go.Proofs.Ytpbdgbejcdncgaa.Val Go.Lib
attribute [local go_sem] run_store_flt
/-- a message -/
structure M where
  kind : Int
  at_ : Int
  r : Pol.R
  fs : List UInt8
  f0 : Option Addr
  fn : Nat
  fc : Nat
  es : List UInt8
  e0 : Option Addr
  en : Nat
  ec : Nat
  ver : Int
  org : List UInt8
  ser : Int
abbrev msgL (kd mat rk rt : Int) (rw_ : List UInt8) (rb : Int) (rs : List UInt8) (r0 : Option Addr) (rn rc : Nat) (rnm : List UInt8) (rp : Int) (fs : List UInt8) (f0 : Option Addr) (fn fc : Nat) (es : List UInt8) (e0 : Option Addr) (en ec : Nat) (ver : Int) (org : List UInt8) (ser : Int) : Array Value :=
  #[.int .i64 kd, .int .i64 mat, .int .i64 rk, .int .i64 rt, .string ⟨rw_.toArray⟩, .int .i64 rb, .string ⟨rs.toArray⟩, .slice r0 rn rc, .string ⟨rnm.toArray⟩, .int .i64 rp, .string ⟨fs.toArray⟩, .slice f0 fn fc, .string ⟨es.toArray⟩, .slice e0 en ec, .int .i64 ver, .string ⟨org.toArray⟩, .int .i64 ser]
abbrev mv (m : M) : Value := .agg (msgL m.kind m.at_ m.r.k.kind m.r.k.tenant m.r.k.who m.r.br m.r.sc m.r.c0 m.r.cn m.r.cc m.r.nm m.r.k.pl m.fs m.f0 m.fn m.fc m.es m.e0 m.en m.ec m.ver m.org m.ser)
/-- what stands ahead of the kinds: the box, the writer -/
theorem msg_head {W2 w : World} {T T2 : TypeId} {cs : Array Value} (h : W2 = (w.alloc (.cells cs T)).alloc (.cells #[.slice none 0 0] T2)) :
    Wr W2 (w.heap.size + 1) [] ∧ Below w.heap.size w W2 ∧ Free W2 (w.heap.size + 1) w.heap.size ∧ ∀ o, W2.cell? ⟨w.heap.size, o, none⟩ = cs[o]? := by
  subst h
  have hw := wr_new2 w (.cells cs T) T2
  refine ⟨hw, balloc2 _ _ _, hw.free (by omega), fun o => ?_⟩
  rw [World.cell?_alloc_lt _ _ _ (by simp)]
  exact World.cell?_alloc_at _ _ _ _ rfl
set_option maxRecDepth 20000 in
set_option maxHeartbeats 8000000 in
theorem msg_sub (m : M) (cs : List C) (w : World) (h0 : m.kind ≠ 0) (h3 : m.kind ≠ 3) (hcl : Conds w m.f0 cs) (hcn : m.fn = cs.length) (hnum : ∀ c ∈ cs, c.val.num < 18446744073709551616) (hl : 1 + (encFilter m.fs cs).length ≤ 1000000) (hlm : cs.length ≤ 1000000) :
    Calls Try.prog 8 #[mv m] w fun e w' => Lays w ([byteOf m.kind] ++ encFilter m.fs cs) e w' := by
  obtain ⟨kd, mat, ⟨⟨rk, rt, who, pl⟩, br, sc, c0, rn, cc, nm⟩, fs, f0, fn, fc, es, e0, en, ec, ver, org, ser⟩ := m
  dsimp only at *
  subst hcn
  have k0 : (kd == 0) = false := by simpa using h0
  have k3 : (kd == 3) = false := by simpa using h3
  have HCL := Lib.hid hcl; have HNUM := Lib.hid hnum
  clear hcl hnum h0 h3
  go_enter Try.func8, Try.ntmps8
  go_upto_region 2 with fail
  have hd := msg_head (w := w) (T := 33) (T2 := 45) (cs := #[.int .i64 kd, .int .i64 mat, .int .i64 rk, .int .i64 rt, .string ⟨who.toArray⟩, .int .i64 br, .string ⟨sc.toArray⟩, .slice c0 rn cc, .string ⟨nm.toArray⟩, .int .i64 pl, .string ⟨fs.toArray⟩, .slice f0 cs.length fc, .string ⟨es.toArray⟩, .slice e0 en ec, .int .i64 ver, .string ⟨org.toArray⟩, .int .i64 ser]) rfl
  generalize World.alloc (World.alloc w _) _ = W2 at *
  obtain ⟨hwr, hbl, hfr, hx⟩ := hd
  obtain ⟨b, hb⟩ : ∃ b, w.heap.size + 1 = b := ⟨_, rfl⟩
  have hle : w.heap.size ≤ b := by omega
  rw [hb] at hwr hfr ⊢
  have y0 := hx 0
  have HWR := Lib.hid hwr; have HFR := Lib.hid hfr; have HBL := Lib.hid hbl; have HB := Lib.hid (Wrote.refl b W2); have HW0 := Lib.hid hwr; have HX := Lib.hid hx
  clear hb hwr hfr hbl hx
  go_wp2_with (first | (go_at_call 29; (with_reducible refine (wbyte_one b [] kd W2 HWR.out (by decide)).mono ?_); rintro e w5 ⟨rfl, hw5, ht5⟩; have x0 := (ht5.cell HFR.out 0).trans (HX.out 0); have x10 := (ht5.cell HFR.out 10).trans (HX.out 10); have x11 := (ht5.cell HFR.out 11).trans (HX.out 11); replace HWR := Lib.hid hw5; replace HB := Lib.hid (HB.out.trans ht5); clear hw5 ht5) | (go_at_call 14; refine (wfilter_any b _ fs f0 fc cs _ w HWR.out HCL.out (HBL.out.trans (HB.out.below HW0.out hle)) hle HNUM.out (by simp only [List.nil_append, List.length_singleton]; omega) hlm).mono ?_; rintro e w6 ⟨rfl, hw5, ht5⟩; replace HWR := Lib.hid hw5; replace HB := Lib.hid (HB.out.trans ht5); clear hw5 ht5) | (go_at_call 15; refine (wbytes_any b _ _ HWR.out (by simp only [List.nil_append, List.length_append, List.length_singleton]; omega)).mono ?_; rintro e w9 ⟨⟨a9, c9, rfl, h91, h92, h93⟩, hb9⟩) | fail)
  go_ret
  exact ⟨⟨a9, c9, rfl, h91, h92, h93⟩, btrans (HBL.out.trans (HB.out.below HW0.out hle)) hb9⟩
set_option maxRecDepth 20000 in
set_option maxHeartbeats 8000000 in
theorem msg_policy (m : M) (cs : List C) (w : World) (h0 : m.kind = 0) (hcl : Conds w m.r.c0 cs) (hcn : m.r.cn = cs.length) (hnum : ∀ c ∈ cs, c.val.num < 18446744073709551616) (hl : 2 + (encRule m.r cs).length ≤ 1000000) (hlm : cs.length ≤ 1000000) :
    Calls Try.prog 8 #[mv m] w fun e w' => Lays w ([byteOf m.kind] ++ [byteOf m.at_] ++ encRule m.r cs) e w' := by
  obtain ⟨kd, mat, ⟨⟨rk, rt, who, pl⟩, br, sc, c0, rn, cc, nm⟩, fs, f0, fn, fc, es, e0, en, ec, ver, org, ser⟩ := m
  dsimp only at *
  subst hcn
  subst h0
  have hput := fun (b : Nat) (s : List UInt8) (W : World) (hs : s.length ≤ 2) (hw : Wr W b s) (hb0 : Below w.heap.size w W) (hle : w.heap.size ≤ b) => wrule_any b s ⟨⟨rk, rt, who, pl⟩, br, sc, c0, cs.length, cc, nm⟩ cs W w hw hcl rfl hb0 hle hnum (by omega) hlm
  have HPUT := Lib.hid hput
  clear hcl hnum hput
  go_enter Try.func8, Try.ntmps8
  go_upto_region 2 with fail
  have hd := msg_head (w := w) (T := 33) (T2 := 45) (cs := #[.int .i64 0, .int .i64 mat, .int .i64 rk, .int .i64 rt, .string ⟨who.toArray⟩, .int .i64 br, .string ⟨sc.toArray⟩, .slice c0 cs.length cc, .string ⟨nm.toArray⟩, .int .i64 pl, .string ⟨fs.toArray⟩, .slice f0 fn fc, .string ⟨es.toArray⟩, .slice e0 en ec, .int .i64 ver, .string ⟨org.toArray⟩, .int .i64 ser]) rfl
  generalize World.alloc (World.alloc w _) _ = W2 at *
  obtain ⟨hwr, hbl, hfr, hx⟩ := hd
  obtain ⟨b, hb⟩ : ∃ b, w.heap.size + 1 = b := ⟨_, rfl⟩
  have hle : w.heap.size ≤ b := by omega
  rw [hb] at hwr hfr ⊢
  have y0 := hx 0
  have HWR := Lib.hid hwr; have HFR := Lib.hid hfr; have HBL := Lib.hid hbl; have HB := Lib.hid (Wrote.refl b W2); have HW0 := Lib.hid hwr; have HX := Lib.hid hx
  clear hb hwr hfr hbl hx
  go_wp2_with (first | (go_at_call 29; (with_reducible refine (wbyte_one b [] 0 W2 HWR.out (by decide)).mono ?_); rintro e w5 ⟨rfl, hw5, ht5⟩; have x0 := (ht5.cell HFR.out 0).trans (HX.out 0); have x1 := (ht5.cell HFR.out 1).trans (HX.out 1); replace HWR := Lib.hid hw5; replace HB := Lib.hid (HB.out.trans ht5); have HF5 := Lib.hid (ht5.free _ HFR.out).1; clear hw5 ht5) | (go_at_call 29; (with_reducible refine (wbyte_one b _ mat w5 HWR.out (by simp)).mono ?_); rintro e w6 ⟨rfl, hw6, ht6⟩; replace HWR := Lib.hid hw6; replace HB := Lib.hid (HB.out.trans ht6); have z2 := (HB.out.cell HFR.out 2).trans (HX.out 2); have z3 := (HB.out.cell HFR.out 3).trans (HX.out 3); have z4 := (HB.out.cell HFR.out 4).trans (HX.out 4); have z5 := (HB.out.cell HFR.out 5).trans (HX.out 5); have z6 := (HB.out.cell HFR.out 6).trans (HX.out 6); have z7 := (HB.out.cell HFR.out 7).trans (HX.out 7); have z8 := (HB.out.cell HFR.out 8).trans (HX.out 8); have z9 := (HB.out.cell HFR.out 9).trans (HX.out 9); clear hw6 ht6) | (go_at_call 30; refine (HPUT.out b _ _ (by simp) HWR.out (HBL.out.trans (HB.out.below HW0.out hle)) hle).mono ?_; rintro e w7 ⟨rfl, hw5, ht5⟩; replace HWR := Lib.hid hw5; replace HB := Lib.hid (HB.out.trans ht5); clear hw5 ht5) | (go_at_call 15; refine (wbytes_any b _ _ HWR.out (by simp only [List.nil_append, List.length_append, List.length_singleton]; omega)).mono ?_; rintro e w9 ⟨⟨a9, c9, rfl, h91, h92, h93⟩, hb9⟩) | fail)
  go_ret
  exact ⟨⟨a9, c9, rfl, h91, h92, h93⟩, btrans (HBL.out.trans (HB.out.below HW0.out hle)) hb9⟩
set_option maxRecDepth 20000 in
set_option maxHeartbeats 8000000 in
theorem msg_event (m : M) (l : List A) (w : World) (h3 : m.kind = 3) (hcl : Attrs w m.e0 l) (hcn : m.en = l.length) (hnum : ∀ c ∈ l, c.val.num < 18446744073709551616) (hl : 18 + m.org.length + (encEvent m.es l).length ≤ 1000000) (hlm : l.length ≤ 1000000) :
    Calls Try.prog 8 #[mv m] w fun e w' => Lays w ([byteOf m.kind] ++ encText m.org ++ encLong (u64of m.ser) ++ encLong (u64of m.ver) ++ encEvent m.es l) e w' := by
  obtain ⟨kd, mat, ⟨⟨rk, rt, who, pl⟩, br, sc, c0, rn, cc, nm⟩, fs, f0, fn, fc, es, e0, en, ec, ver, org, ser⟩ := m
  dsimp only at *
  subst hcn
  subst h3
  have hu1 := u64of_val ver
  have hu2 := u64of_val ser
  have HU1 := Lib.hid hu1; have HU2 := Lib.hid hu2
  have HCL := Lib.hid hcl; have HNUM := Lib.hid hnum
  clear hcl hnum hu1 hu2
  go_enter Try.func8, Try.ntmps8
  go_upto_region 2 with fail
  have hd := msg_head (w := w) (T := 33) (T2 := 45) (cs := #[.int .i64 3, .int .i64 mat, .int .i64 rk, .int .i64 rt, .string ⟨who.toArray⟩, .int .i64 br, .string ⟨sc.toArray⟩, .slice c0 rn cc, .string ⟨nm.toArray⟩, .int .i64 pl, .string ⟨fs.toArray⟩, .slice f0 fn fc, .string ⟨es.toArray⟩, .slice e0 l.length ec, .int .i64 ver, .string ⟨org.toArray⟩, .int .i64 ser]) rfl
  generalize World.alloc (World.alloc w _) _ = W2 at *
  obtain ⟨hwr, hbl, hfr, hx⟩ := hd
  obtain ⟨b, hb⟩ : ∃ b, w.heap.size + 1 = b := ⟨_, rfl⟩
  have hle : w.heap.size ≤ b := by omega
  rw [hb] at hwr hfr ⊢
  have y0 := hx 0
  have HWR := Lib.hid hwr; have HFR := Lib.hid hfr; have HBL := Lib.hid hbl; have HB := Lib.hid (Wrote.refl b W2); have HW0 := Lib.hid hwr; have HX := Lib.hid hx
  clear hb hwr hfr hbl hx
  go_upto_region 9 with (go_at_call 29; (with_reducible refine (wbyte_one b [] 3 W2 HWR.out (by decide)).mono ?_); rintro e w5 ⟨rfl, hw5, ht5⟩; have x0 := (ht5.cell HFR.out 0).trans (HX.out 0); replace HWR := Lib.hid hw5; replace HB := Lib.hid (HB.out.trans ht5); have HF5 := Lib.hid (ht5.free _ HFR.out).1; clear hw5 ht5)
  have hsall : ∀ W, Wrote b w5 W → (fun w' => w'.cell? ⟨w.heap.size, 12, none⟩ = some (.string ⟨es.toArray⟩) ∧ w'.cell? ⟨w.heap.size, 13, none⟩ = some (.slice e0 l.length ec) ∧ w'.cell? ⟨w.heap.size, 14, none⟩ = some (.int .i64 ver) ∧ w'.cell? ⟨w.heap.size, 15, none⟩ = some (.string ⟨org.toArray⟩) ∧ w'.cell? ⟨w.heap.size, 16, none⟩ = some (.int .i64 ser)) W := fun W hb => ⟨((HB.out.trans hb).cell HFR.out 12).trans (HX.out 12), ((HB.out.trans hb).cell HFR.out 13).trans (HX.out 13), ((HB.out.trans hb).cell HFR.out 14).trans (HX.out 14), ((HB.out.trans hb).cell HFR.out 15).trans (HX.out 15), ((HB.out.trans hb).cell HFR.out 16).trans (HX.out 16)⟩
  have HSALL := Lib.hid hsall; have HB5 := Lib.hid HB.out
  clear hsall
  refine wp_region_held_drew (S := (fun w' => w'.cell? ⟨w.heap.size, 12, none⟩ = some (.string ⟨es.toArray⟩) ∧ w'.cell? ⟨w.heap.size, 13, none⟩ = some (.slice e0 l.length ec) ∧ w'.cell? ⟨w.heap.size, 14, none⟩ = some (.int .i64 ver) ∧ w'.cell? ⟨w.heap.size, 15, none⟩ = some (.string ⟨org.toArray⟩) ∧ w'.cell? ⟨w.heap.size, 16, none⟩ = some (.int .i64 ser))) (by kernel_rfl) ?_ (fun hq0 => ?_)
  · exact HSALL.out _ (wrote_drew b w5)
  have HBB : Hid (Wrote b w5 w5.drew) := Lib.hid (wrote_drew b w5)
  replace HWR := Lib.hid (wr_drew HWR.out)
  generalize w5.drew = D0 at *
  (refine wpAnyH_take (i := 0) (oi := ?_) (v := ?_) ?_ (by kernel_rfl) (by kernel_rfl) (by kernel_rfl) ?_ (Or.inl ⟨?_, ?_⟩) (by assumption) ?_; rotate_left 2; (· (simp only [List.getElem?_toArray, List.getElem?_cons_zero]; first | done | rfl)); (· exact (fun _ _ _ h => h)); (· rfl); (· (intro w hSw; (try dsimp only at hSw); go_simp; (try with_reducible rfl))))
  (try simp only [Act.put, List.setIfInBounds_toArray, List.set_cons_zero, List.set_cons_succ])
  (refine wpAnyH_take (i := 1) (oi := ?_) (v := ?_) ?_ (by kernel_rfl) (by kernel_rfl) (by kernel_rfl) ?_ (Or.inl ⟨?_, ?_⟩) (by assumption) ?_; rotate_left 2; (· (simp only [List.getElem?_toArray, List.getElem?_cons_succ, List.getElem?_cons_zero]; first | done | rfl)); (· exact (fun _ _ _ h => h)); (· rfl); (· (intro w hSw; (try dsimp only at hSw); go_simp; (try with_reducible rfl))))
  (try simp only [Act.put, List.setIfInBounds_toArray, List.set_cons_zero, List.set_cons_succ])
  (refine wpAnyH_take (i := 3) (oi := ?_) (v := ?_) ?_ (by kernel_rfl) (by kernel_rfl) (by kernel_rfl) ?_ (Or.inl ⟨?_, ?_⟩) (by assumption) ?_; rotate_left 2; (· (simp only [List.getElem?_toArray, List.getElem?_cons_succ, List.getElem?_cons_zero]; first | done | rfl)); (· exact (fun _ _ _ h => h)); (· rfl); (· (intro w hSw; (try dsimp only at hSw); go_simp; (try with_reducible rfl))))
  (try simp only [Act.put, List.setIfInBounds_toArray, List.set_cons_zero, List.set_cons_succ])
  (refine wpAnyH_take (i := 4) (oi := ?_) (v := ?_) ?_ (by kernel_rfl) (by kernel_rfl) (by kernel_rfl) ?_ (Or.inl ⟨?_, ?_⟩) (by assumption) ?_; rotate_left 2; (· (simp only [List.getElem?_toArray, List.getElem?_cons_succ, List.getElem?_cons_zero]; first | done | rfl)); (· exact (fun _ _ _ h => h)); (· rfl); (· (intro w hSw; (try dsimp only at hSw); go_simp; (try with_reducible rfl))))
  (try simp only [Act.put, List.setIfInBounds_toArray, List.set_cons_zero, List.set_cons_succ])
  (refine wpAnyH_take (i := 5) (oi := ?_) (v := ?_) ?_ (by kernel_rfl) (by kernel_rfl) (by kernel_rfl) ?_ (Or.inl ⟨?_, ?_⟩) (by assumption) ?_; rotate_left 2; (· (simp only [List.getElem?_toArray, List.getElem?_cons_succ, List.getElem?_cons_zero]; first | done | rfl)); (· exact (fun _ _ _ h => h)); (· rfl); (· (intro w hSw; (try dsimp only at hSw); go_simp; (try with_reducible rfl))))
  (try simp only [Act.put, List.setIfInBounds_toArray, List.set_cons_zero, List.set_cons_succ])
  (refine wpAnyH_take (i := 7) (oi := ?_) (v := ?_) ?_ (by kernel_rfl) (by kernel_rfl) (by kernel_rfl) ?_ (Or.inl ⟨?_, ?_⟩) (by assumption) ?_; rotate_left 2; (· (simp only [List.getElem?_toArray, List.getElem?_cons_succ, List.getElem?_cons_zero]; first | done | rfl)); (· exact (fun _ _ _ h => h)); (· rfl); (· (intro w hSw; (try dsimp only at hSw); go_simp; (try with_reducible rfl))))
  (try simp only [Act.put, List.setIfInBounds_toArray, List.set_cons_zero, List.set_cons_succ])
  (refine wpAnyH_take (i := 8) (oi := ?_) (v := ?_) ?_ (by kernel_rfl) (by kernel_rfl) (by kernel_rfl) ?_ (Or.inl ⟨?_, ?_⟩) (by assumption) ?_; rotate_left 2; (· (simp only [List.getElem?_toArray, List.getElem?_cons_succ, List.getElem?_cons_zero]; first | done | rfl)); (· exact (fun _ _ _ h => h)); (· rfl); (· (intro w hSw; (try dsimp only at hSw); go_simp; (try with_reducible rfl))))
  (try simp only [Act.put, List.setIfInBounds_toArray, List.set_cons_zero, List.set_cons_succ])
  (refine wpAnyH_take (i := 9) (oi := ?_) (v := ?_) ?_ (by kernel_rfl) (by kernel_rfl) (by kernel_rfl) ?_ (Or.inl ⟨?_, ?_⟩) (by assumption) ?_; rotate_left 2; (· (simp only [List.getElem?_toArray, List.getElem?_cons_succ, List.getElem?_cons_zero]; first | done | rfl)); (· exact (fun _ _ _ h => h)); (· rfl); (· (intro w hSw; (try dsimp only at hSw); go_simp; (try with_reducible rfl))))
  (try simp only [Act.put, List.setIfInBounds_toArray, List.set_cons_zero, List.set_cons_succ])
  (refine wpAnyH_take (i := 11) (oi := ?_) (v := ?_) ?_ (by kernel_rfl) (by kernel_rfl) (by kernel_rfl) ?_ (Or.inl ⟨?_, ?_⟩) (by assumption) ?_; rotate_left 2; (· (simp only [List.getElem?_toArray, List.getElem?_cons_succ, List.getElem?_cons_zero]; first | done | rfl)); (· exact (fun _ _ _ h => h)); (· rfl); (· (intro w hSw; (try dsimp only at hSw); go_simp; (try with_reducible rfl))))
  (try simp only [Act.put, List.setIfInBounds_toArray, List.set_cons_zero, List.set_cons_succ])
  (refine wpAnyH_take (i := 12) (oi := ?_) (v := ?_) ?_ (by kernel_rfl) (by kernel_rfl) (by kernel_rfl) ?_ (Or.inl ⟨?_, ?_⟩) (by assumption) ?_; rotate_left 2; (· (simp only [List.getElem?_toArray, List.getElem?_cons_succ, List.getElem?_cons_zero]; first | done | rfl)); (· exact (fun _ _ _ h => h)); (· rfl); (· (intro w hSw; (try dsimp only at hSw); go_simp; (try with_reducible rfl))))
  (try simp only [Act.put, List.setIfInBounds_toArray, List.set_cons_zero, List.set_cons_succ])
  refine wpAnyH_ready (rs := [2]) (by kernel_rfl) (by simp) ?_
  refine AllReadyH.cons (o := ?_) ?_ (fun K hK => ?_) AllReadyH.nil
  rotate_left 1
  · (simp only [List.getElem?_toArray, List.getElem?_cons_succ, List.getElem?_cons_zero]; first | done | rfl)
  go_simp
  go_at_call 31
  refine (wtext_any b _ org _ HWR.out (by simp; omega)).mono ?_
  rintro e D1 ⟨rfl, hwr, hwt⟩
  first | (refine hK.out _ _ ?_ (fun hq1 => ?_)) | (go_wp2_with fail; refine hK.out _ _ ?_ (fun hq1 => ?_))
  · exact HSALL.out _ (HBB.out.trans hwt)
  clear hK K
  (try simp only [Act.put, List.setIfInBounds_toArray, List.set_cons_zero, List.set_cons_succ])
  clear hq0
  replace HBB := Lib.hid (HBB.out.trans hwt)
  replace HWR := Lib.hid hwr
  clear hwr hwt
  refine wpAnyH_ready (rs := [6]) (by kernel_rfl) (by simp) ?_
  refine AllReadyH.cons (o := ?_) ?_ (fun K hK => ?_) AllReadyH.nil
  rotate_left 1
  · (simp only [List.getElem?_toArray, List.getElem?_cons_succ, List.getElem?_cons_zero]; first | done | rfl)
  go_simp
  go_at_call 32
  refine ((show Calls _ _ #[_, .int .u64 (IntKind.u64.wrap ser)] _ _ from HU2.out ▸ wlong_any b _ (u64of ser) D1 HWR.out (by simp [encText_len]; omega))).mono ?_
  rintro e D2 ⟨rfl, hwr, hwt⟩
  first | (refine hK.out _ _ ?_ (fun hq2 => ?_)) | (go_wp2_with fail; refine hK.out _ _ ?_ (fun hq2 => ?_))
  · exact HSALL.out _ (HBB.out.trans hwt)
  clear hK K
  (try simp only [Act.put, List.setIfInBounds_toArray, List.set_cons_zero, List.set_cons_succ])
  clear hq1
  replace HBB := Lib.hid (HBB.out.trans hwt)
  replace HWR := Lib.hid hwr
  clear hwr hwt
  refine wpAnyH_ready (rs := [10]) (by kernel_rfl) (by simp) ?_
  refine AllReadyH.cons (o := ?_) ?_ (fun K hK => ?_) AllReadyH.nil
  rotate_left 1
  · (simp only [List.getElem?_toArray, List.getElem?_cons_succ, List.getElem?_cons_zero]; first | done | rfl)
  go_simp
  go_at_call 32
  refine ((show Calls _ _ #[_, .int .u64 (IntKind.u64.wrap ver)] _ _ from HU1.out ▸ wlong_any b _ (u64of ver) D2 HWR.out (by simp [encText_len, encLong_len]; omega))).mono ?_
  rintro e D3 ⟨rfl, hwr, hwt⟩
  first | (refine hK.out _ _ ?_ (fun hq3 => ?_)) | (go_wp2_with fail; refine hK.out _ _ ?_ (fun hq3 => ?_))
  · exact HSALL.out _ (HBB.out.trans hwt)
  clear hK K
  (try simp only [Act.put, List.setIfInBounds_toArray, List.set_cons_zero, List.set_cons_succ])
  clear hq2
  replace HBB := Lib.hid (HBB.out.trans hwt)
  replace HWR := Lib.hid hwr
  clear hwr hwt
  refine wpAnyH_ready (rs := [13]) (by kernel_rfl) (by simp) ?_
  refine AllReadyH.cons (o := ?_) ?_ (fun K hK => ?_) AllReadyH.nil
  rotate_left 1
  · (simp only [List.getElem?_toArray, List.getElem?_cons_succ, List.getElem?_cons_zero]; first | done | rfl)
  go_simp
  go_at_call 33
  refine (wevent_any b _ es e0 ec l _ w HWR.out HCL.out (HBL.out.trans ((HB5.out.trans HBB.out).below HW0.out hle)) hle HNUM.out (by simp [encText_len, encLong_len]; omega) hlm).mono ?_
  rintro e D4 ⟨rfl, hwr, hwt⟩
  first | (refine hK.out _ _ ?_ (fun hq4 => ?_)) | (go_wp2_with fail; refine hK.out _ _ ?_ (fun hq4 => ?_))
  · exact HSALL.out _ (HBB.out.trans hwt)
  clear hK K
  (try simp only [Act.put, List.setIfInBounds_toArray, List.set_cons_zero, List.set_cons_succ])
  clear hq3
  replace HBB := Lib.hid (HBB.out.trans hwt)
  replace HWR := Lib.hid hwr
  clear hwr hwt
  refine wpAnyH_done (by kernel_rfl) ?_ _
  have hw := HWR.out
  generalize hTX : ([] ++ [byteOf 3] ++ encText org ++ encLong (u64of ser) ++ encLong (u64of ver) ++ encEvent es l) = TX at hw
  have HTX := Lib.hid hTX
  have hTL : TX.length ≤ 1000000 := (by rw [← hTX]; simp [encText_len, encLong_len]; omega)
  clear hTX
  go_wp2_with (go_at_call 15; refine (wbytes_any b _ _ hw hTL).mono ?_; rintro e w9 ⟨⟨a9, c9, rfl, h91, h92, h93⟩, hb9⟩)
  go_ret
  rw [show byteOf 3 :: (encText org ++ encLong (u64of ser) ++ encLong (u64of ver) ++ encEvent es l) = TX from HTX.out]
  exact ⟨⟨a9, c9, rfl, h91, h92, h93⟩, btrans (HBL.out.trans ((HB5.out.trans HBB.out).below HW0.out hle)) hb9⟩
end Go.Proofs.Ytpbdgbejcdncgaa.Wire
end

section
/- A READER OF BYTES: a message's closure, at subscriptions; codec.Read behind a call that ends well. -/
namespace Go.Proofs.Ytpbdgbejcdncgaa.Wire
open Go.RowKit Flt Go.Proofs.Ytpbdgbejcdncgaa.Val Go.Lib
variable {B : Nat}
attribute [local go_sem] run_store_flt
theorem rd_near {b q o : Nat} {W : World} {u : Value} {s : List UInt8} (h : RdAt W b B s) (hq : B ≤ q) (hne : q ≠ b) : RdAt (W.setCell ⟨q, o, none⟩ u) b B s := by
  obtain ⟨⟨a0, cap, hc, h1, h2, h3, h4, h5⟩, hf, hB⟩ := h
  refine ⟨⟨a0, cap, (World.cell?_setCell_other _ _ _ _ (by intro e; injection e with e1; exact hne e1)).trans hc, h1, h2, fun i hi => ?_, h4, h5⟩, by simpa using hf, hB⟩
  obtain ⟨a, e, h6⟩ := h3 i hi
  have h7 := h5 (fun e0 => by rw [e0] at hi; simp at hi) a e
  have hab : (a.add i).block = a.block := by unfold Addr.add; split <;> rfl
  exact ⟨a, e, (World.cell?_setCell_other _ _ _ _ (by intro e2; have := congrArg Addr.block e2; rw [hab] at this; have : q = a.block := this; omega)).trans h6⟩
/-- a box of many cells -/
structure BoxM (W : World) (p : Nat) (cs : Array Value) : Prop where
  c : ∀ o, o < cs.size → W.cell? ⟨p, o, none⟩ = cs[o]?
  z : ∀ o, W.frozen? ⟨p, o, none⟩ = false
  pos : 0 < cs.size
theorem BoxM.lt {W : World} {p : Nat} {cs : Array Value} (h : BoxM W p cs) : p < W.heap.size := by
  have := h.c 0 h.pos
  rw [Array.getElem?_eq_getElem h.pos] at this
  exact World.block_lt_of_cell? _ _ this
theorem BoxM.rk {W W2 : World} {p b : Nat} {cs : Array Value} (h : BoxM W p cs) (hk : RK b W W2) (hne : p ≠ b) : BoxM W2 p cs :=
  ⟨fun o ho => (hk.cell (p := ⟨p, o, none⟩) h.lt hne).trans (h.c o ho), fun o => (hk.frozen (p := ⟨p, o, none⟩) h.lt hne).trans (h.z o), h.pos⟩
theorem BoxM.below {W W2 : World} {p : Nat} {cs : Array Value} (h : BoxM W p cs) (hb : Below W.heap.size W W2) : BoxM W2 p cs :=
  ⟨fun o ho => (hb.cell (p := ⟨p, o, none⟩) h.lt).trans (h.c o ho), fun o => (hb.frozen (p := ⟨p, o, none⟩) h.lt).trans (h.z o), h.pos⟩
theorem BoxM.other {W : World} {p q o : Nat} {u : Value} {cs : Array Value} (h : BoxM W p cs) (hne : p ≠ q) : BoxM (W.setCell ⟨q, o, none⟩ u) p cs :=
  ⟨fun o2 ho => (World.cell?_setCell_other _ _ _ _ (by intro e; injection e with e1; exact hne e1.symm)).trans (h.c o2 ho), fun o2 => by simpa using h.z o2, h.pos⟩
theorem BoxM.set {W : World} {p i : Nat} {u : Value} {cs : Array Value} (h : BoxM W p cs) (hi : i < cs.size) : BoxM (W.setCell ⟨p, i, none⟩ u) p (cs.setIfInBounds i u) := by
  refine ⟨fun o ho => ?_, fun o2 => by simpa using h.z o2, by simpa using h.pos⟩
  rw [Array.size_setIfInBounds] at ho
  rw [Array.getElem?_setIfInBounds]
  by_cases e : i = o
  · subst e
    rw [if_pos rfl, if_pos hi]
    have := h.c i hi
    rw [Array.getElem?_eq_getElem hi] at this
    exact World.cell?_setCell_same _ _ _ this
  · rw [if_neg e]
    exact (World.cell?_setCell_other _ _ _ _ (by intro e2; injection e2 with _ e3; exact e e3)).trans (h.c o ho)
theorem boxm_new (w : World) (cs : Array Value) (T : TypeId) (h : 0 < cs.size) : BoxM (w.alloc (.cells cs T)) w.heap.size cs :=
  ⟨fun o _ => World.cell?_alloc_at _ _ _ _ rfl, fun o => by simp, h⟩
/-- what may turn: the reader's box, and another one -/
structure RM (b q : Nat) (W W2 : World) : Prop where
  os : W2.os = W.os
  tape : W2.tape = W.tape
  output : W2.output = W.output
  size : W.heap.size ≤ W2.heap.size
  block : ∀ p, p < W.heap.size → p ≠ b → p ≠ q → W2.heap[p]? = W.heap[p]?
theorem rm_rk {b q : Nat} {W W2 : World} (h : RK b W W2) : RM b q W W2 := ⟨h.os, h.tape, h.output, h.size, fun p hp h1 _ => h.block p hp h1⟩
theorem RM.trans {b q : Nat} {W W2 W3 : World} (h : RM b q W W2) (k : RM b q W2 W3) : RM b q W W3 :=
  ⟨k.os.trans h.os, k.tape.trans h.tape, k.output.trans h.output, Nat.le_trans h.size k.size, fun p hp h1 h2 => (k.block p (Nat.lt_of_lt_of_le hp h.size) h1 h2).trans (h.block p hp h1 h2)⟩
theorem rm_set (b q o : Nat) (W : World) (u : Value) : RM b q W (W.setCell ⟨q, o, none⟩ u) := ⟨rfl, rfl, rfl, by simp, fun p _ _ h2 => Below.heap_setCell _ _ _ _ h2⟩
theorem BoxM.rm {W W2 : World} {p b q : Nat} {cs : Array Value} (h : BoxM W p cs) (hk : RM b q W W2) (h1 : p ≠ b) (h2 : p ≠ q) : BoxM W2 p cs := by
  have e := hk.block p h.lt h1 h2
  exact ⟨fun o ho => (World.cell?_of_block (w := W) (a := ⟨p, o, none⟩) e).trans (h.c o ho), fun o => (World.frozen?_of_block (w := W) (a := ⟨p, o, none⟩) e).trans (h.z o), h.pos⟩
abbrev msgZ : Array Value := msgL 0 0 0 0 [] 0 [] none 0 0 [] 0 [] none 0 0 [] none 0 0 0 [] 0
theorem decByte_some {s t : List UInt8} {c : UInt8} (h : s = c :: t) : decByte s = some (c, t) := by rw [h]; rfl
set_option maxRecDepth 20000 in
set_option maxHeartbeats 4000000 in
theorem clo_sub (b bm br bk : Nat) (c : UInt8) (t sf rest : List UInt8) (l : List C) (w : World) (h : RdAt w b B (c :: t)) (hc : c = 1 ∨ c = 2) (hd : decFilter t = some ((sf, l), rest)) (hm : BoxM w bm msgZ) (hBm : B ≤ bm) (hmb : bm ≠ b) :
    Calls Try.prog 20 #[.pointer (some ⟨b, 0, none⟩), .pointer (some ⟨bm, 0, none⟩), .pointer (some ⟨br, 0, none⟩), .pointer (some ⟨bk, 0, none⟩)] w fun e w' => e = .returned (.tuple #[]) ∧ ∃ (c0 : Option Addr) (cap : Nat), BoxM w' bm (msgL (c.toNat : Int) 0 0 0 [] 0 [] none 0 0 [] 0 sf c0 l.length cap [] none 0 0 0 [] 0) ∧ l.length ≤ cap ∧ Conds w' c0 l ∧ (∀ a, c0 = some a → w.heap.size ≤ a.block) ∧ (c0 = none → cap = 0) ∧ RdAt w' b B rest ∧ RM b bm w w' := by
  have HH := Lib.hid h; have HM := Lib.hid hm
  clear h hm
  obtain ⟨k, hk, k0, k12⟩ : ∃ k : Int, (c.toNat : Int) = k ∧ (k == 0) = false ∧ ((k == 1) = true ∨ ((k == 1) = false ∧ (k == 2) = true)) := by
    rcases hc with rfl | rfl
    · exact ⟨1, rfl, rfl, .inl rfl⟩
    · exact ⟨2, rfl, rfl, .inr ⟨rfl, rfl⟩⟩
  have hbml := HM.out.lt
  rcases k12 with k1 | ⟨k1, k2⟩
  all_goals
    go_enter Try.func20, Try.ntmps20
    go_wp2_with (first | (go_at_call 21; refine (rbyte_any b (c :: t) w HH.out).mono ?_; rintro e w1 h1; obtain ⟨rfl, hr1, hk1⟩ := took_some h1; have HM1 := Lib.hid (HM.out.rk hk1 hmb); have x0 : w1.cell? ⟨bm, 0, none⟩ = some (.int .i64 0) := HM1.out.c 0 (by decide); have xz := HM1.out.z 0; clear h1) | (go_at_call 23; refine (rfilter_any b t _ (rd_near hr1 hBm hmb)).mono ?_; rintro e w3 (⟨sf', l', rest', c0, cap, hd', rfl, hcap, hcs, hbl, hcn, hr3, hk3⟩ | ⟨hd', _⟩); rotate_left; (rw [hd] at hd'; cases hd'); (rw [hd] at hd'; injection hd' with hd'; injection hd' with e1 e2; injection e1 with e1 e3; subst e1; subst e2; subst e3); have HM3 := Lib.hid ((HM1.out.set (i := 0) (u := .int .i64 k) (by decide)).rk hk3 hmb); have y10 : w3.cell? ⟨bm, 10, none⟩ = some (.string ⟨#[]⟩) := HM3.out.c 10 (by simp only [Array.size_setIfInBounds]; decide); have y11 : w3.cell? ⟨bm, 11, none⟩ = some (.slice none 0 0) := HM3.out.c 11 (by simp only [Array.size_setIfInBounds]; decide); have yz := HM3.out.z) | fail)
    first | go_end0 | refine bodyPost_ret (results_none rfl _ _ _) rfl ?_
    have hsz : w.heap.size ≤ w1.heap.size := hk1.size
    have hbq : ∀ a, c0 = some a → w1.heap.size ≤ a.block := fun a e => by have := hbl a e; simpa using this
    refine ⟨rfl, c0, cap, ?_, hcap, ?_, fun a e => Nat.le_trans hsz (hbq a e), hcn, rd_near (rd_near hr3 hBm hmb) hBm hmb, ?_⟩
    · rw [hk]
      exact (HM3.out.set (i := 10) (u := .string ⟨sf.toArray⟩) (by simp only [Array.size_setIfInBounds]; decide)).set (i := 11) (u := .slice c0 l.length cap) (by simp only [Array.size_setIfInBounds]; decide)
    · exact conds_keep hcs (fun a e p hp _ => (World.cell?_setCell_other _ _ _ _ (by intro e2; have := hbq a e; rw [← e2] at hp; simp at hp; omega)).trans (World.cell?_setCell_other _ _ _ _ (by intro e2; have := hbq a e; rw [← e2] at hp; simp at hp; omega)))
    · exact (rm_rk hk1).trans ((rm_set _ _ _ _ _).trans ((rm_rk hk3).trans ((rm_set _ _ _ _ _).trans (rm_set _ _ _ _ _))))
end Go.Proofs.Ytpbdgbejcdncgaa.Wire
end

section
/- codec.Read's deferred closure: what it does where nothing was thrown, and where 'short' was. -/
namespace Go.Proofs.Ytpbdgbejcdncgaa.Wire
open Go.RowKit Flt Go.Proofs.Ytpbdgbejcdncgaa.Val Go.Lib
variable {B : Nat}
theorem catch_idle (p : Addr) (w : World) :
    CallsD Try.prog 39 #[.pointer (some p)] .returning w fun e u' w' => e = .returned (.tuple #[]) ∧ u' = .returning ∧ w' = w := by
  refine callsD_of_wpS Try.func39 rfl fun c₀ cs hu => ?_
  apply wpS_seq
  apply wpS_region
  simp [wpOpsS, go_sem, recoverD, hu, Try.ntmps39, Exit.thenS]
  refine wpS_of_wp ?_
  rw [show (#[Value.pointer (some p)] ++ (Array.replicate 9 undef).setIfInBounds 3 Value.nilIface) = #[.pointer (some p), undef, undef, undef, .nilIface, undef, undef, undef, undef, undef] from rfl]
  have heq : ∀ w : World, (binOp BinOp.eql 20 .nilIface .nilIface).run Try.prog w = .ok (.bool true) w := fun _ => by kernel_rfl
  go_wp2
  cases c₀
  simp_all [bodyPostS, results, Try.results39]
set_option maxRecDepth 20000 in
theorem catch_short (p : Addr) (v : Value) (older : List PanicEntry) (w : World) (hc : w.cell? p = some v) (hz : w.frozen? p = false) :
    CallsD Try.prog 39 #[.pointer (some p)] (.panicking ({ v := .iface 83 (.agg #[]), recovered := false } :: older)) w fun e u' w' => e = .returned (.tuple #[]) ∧ u' = .panicking ({ v := .iface 83 (.agg #[]), recovered := true } :: older) ∧ ∃ o, w' = (w.alloc o).setCell p (.bool false) := by
  refine callsD_of_wpS Try.func39 rfl fun c₀ cs hu => ?_
  apply wpS_seq
  apply wpS_region
  simp [wpOpsS, go_sem, recoverD, hu, Try.ntmps39, Exit.thenS]
  refine wpS_of_wp ?_
  rw [show (#[Value.pointer (some p)] ++ (Array.replicate 9 undef).setIfInBounds 3 (Value.iface 83 (.agg #[]))) = #[.pointer (some p), undef, undef, undef, .iface 83 (.agg #[]), undef, undef, undef, undef, undef] from rfl]
  have heq : ∀ w : World, (binOp BinOp.eql 20 (.iface 83 (.agg #[])) .nilIface).run Try.prog w = .ok (.bool false) w := fun _ => by kernel_rfl
  have hta : ∀ w : World, (Instr.typeAssert (.iface 83 (.agg #[])) 20 83 true).run Try.prog w = .ok (.tuple #[.agg #[], .bool true]) w := fun _ => by kernel_rfl
  have hlt := World.block_lt_of_cell? _ _ hc
  have hc2 : ∀ o : Obj, (w.alloc o).cell? p = some v := fun o => (World.cell?_alloc_lt w o p hlt).trans hc
  have hz2 : ∀ o : Obj, (w.alloc o).frozen? p = false := fun o => (World.frozen?_alloc_old w o p (Nat.ne_of_lt hlt)).trans hz
  clear hc hz
  go_wp2
  exact ⟨rfl, _, rfl, .tuple #[], by simp [results, Try.results39], rfl, rfl, _, rfl⟩
/-- what codec.Read answers: whether its call ended well, and all was read -/
def ReadP (R : Option (List UInt8) → World → Prop) (p : Nat) (e : Ending) (w' : World) : Prop := ∃ (ok : Bool) (x : Option (List UInt8)) (w1 : World), e = .returned (.bool ok) ∧ R x w1 ∧ (ok = true ↔ x = some []) ∧ RK p w1 w'
theorem readp {R : Option (List UInt8) → World → Prop} {p : Nat} {e : Ending} {w' : World} (ok : Bool) (x : Option (List UInt8)) (w1 : World) (h1 : e = .returned (.bool ok)) (h2 : R x w1) (h3 : ok = true ↔ x = some []) (h4 : RK p w1 w') : ReadP R p e w' := ⟨ok, x, w1, h1, h2, h3, h4⟩
theorem rd_start {w : World} {a0 : Option Addr} {cap : Nat} {s : List UInt8} {T T2 : TypeId} (h : BytesAt w a0 s) (h1 : s.length ≤ cap) (h2 : cap ≤ maxLen) (h3 : a0 = none → cap = 0) (hB : B ≤ w.heap.size) (hb : s ≠ [] → ∀ a, a0 = some a → a.block < B) :
    RdAt ((w.alloc (.cells #[.bool false] T)).alloc (.cells #[.slice a0 s.length cap] T2)) (w.heap.size + 1) B s := by
  refine ⟨⟨a0, cap, ?_, h1, h2, h.below (balloc2 _ _ _), h3, hb⟩, by simp, by omega⟩
  rw [← show (w.alloc (.cells #[.bool false] T)).heap.size = w.heap.size + 1 from by simp]
  exact World.cell?_alloc_at _ _ _ _ rfl
/-- what lies where bytes lie -/
theorem bytes_low {w : World} {a0 : Option Addr} {s : List UInt8} (h : BytesAt w a0 s) : s ≠ [] → ∀ a, a0 = some a → a.block < w.heap.size := fun hne a e => by
  obtain ⟨a2, e2, h4⟩ := h 0 (List.length_pos_iff.2 hne)
  rw [e] at e2
  injection e2 with e2
  subst e2
  have hab : (a.add 0).block = a.block := by unfold Addr.add; split <;> rfl
  have := World.block_lt_of_cell? _ _ h4
  rwa [hab] at this
set_option maxRecDepth 20000 in
set_option maxHeartbeats 4000000 in
theorem read_msg (a0 : Option Addr) (cap : Nat) (s : List UInt8) (p1 p2 p3 : Addr) (w : World) (R : Option (List UInt8) → World → Prop)
    (hc : ∀ W, Below w.heap.size w W → RdAt W (w.heap.size + 1) B s → Calls Try.prog 20 #[.pointer (some ⟨w.heap.size + 1, 0, none⟩), .pointer (some p1), .pointer (some p2), .pointer (some p3)] W fun e w' => (∃ rest, e = .returned (.tuple #[]) ∧ RdAt w' (w.heap.size + 1) B rest ∧ w'.cell? ⟨w.heap.size, 0, none⟩ = W.cell? ⟨w.heap.size, 0, none⟩ ∧ w'.frozen? ⟨w.heap.size, 0, none⟩ = W.frozen? ⟨w.heap.size, 0, none⟩ ∧ R (some rest) w') ∨ (e = shortP ∧ w'.cell? ⟨w.heap.size, 0, none⟩ = W.cell? ⟨w.heap.size, 0, none⟩ ∧ w'.frozen? ⟨w.heap.size, 0, none⟩ = W.frozen? ⟨w.heap.size, 0, none⟩ ∧ R none w'))
    (hby : BytesAt w a0 s) (hcap : s.length ≤ cap) (hcm : cap ≤ maxLen) (hn : a0 = none → cap = 0) (hB : B ≤ w.heap.size) (hlow : s ≠ [] → ∀ a, a0 = some a → a.block < B) :
    Calls Try.prog 19 #[.slice a0 s.length cap, .func (Fn.func 20) #[] #[.pointer (some p1), .pointer (some p2), .pointer (some p3)]] w fun e w' => ReadP R w.heap.size e w' := by
  have hmf : ∀ (fn : Fn) (first cap : Array Value) (w : World), (Instr.makeFunc fn first cap).run Try.prog w = .ok (.func fn first cap) w := fun _ _ _ _ => rfl
  have HC := Lib.hid hc; have HBY := Lib.hid hby; have HN := Lib.hid hn; have HLOW := Lib.hid hlow
  clear hc hby hn hlow
  go_enter_defers Try.func19, Try.ntmps19
  go_wp2_with (first | (go_at_call 20; refine (HC.out _ (balloc2 _ _ _) (rd_start HBY.out hcap hcm HN.out hB HLOW.out)).mono ?_; rintro e w1 (⟨rest, rfl, hr, hcok, hfok, hR⟩ | ⟨rfl, hcok, hfok, hR⟩); (obtain ⟨⟨a1, cap1, hc1, h11, h12, h13, h14, h15⟩, hz1, hB1⟩ := hr); all_goals (have ck : w1.cell? ⟨w.heap.size, 0, none⟩ = some (.bool false) := hcok.trans (by simp)); all_goals (have fk : w1.frozen? ⟨w.heap.size, 0, none⟩ = false := hfok.trans (by simp))) | fail)
  · refine leaves_cons (f := 39) (args := #[.pointer (some ⟨w.heap.size, 0, none⟩)]) (by simp) (by simp [go_sem]) ?_
    refine (catch_idle ⟨w.heap.size, 0, none⟩ _).mono ?_
    rintro e u' w'' ⟨rfl, rfl, rfl⟩
    have hce : (w1.setCell ⟨w.heap.size, 0, none⟩ (.bool ((rest.length : Int) == 0))).cell? ⟨w.heap.size, 0, none⟩ = some (.bool ((rest.length : Int) == 0)) := World.cell?_setCell_same _ _ _ ck
    have hrk := rk_set w.heap.size w1 (.bool ((rest.length : Int) == 0))
    generalize World.setCell w1 _ _ = W9 at *
    have hok : (((rest.length : Int) == 0) = true ↔ some rest = some []) := by
      rw [beq_iff_eq]
      constructor
      · intro e; rw [List.eq_nil_of_length_eq_zero (l := rest) (by omega)]
      · intro e; injection e with e; rw [e]; rfl
    generalize ((rest.length : Int) == 0) = ok at *
    simp [Leaves, settle, results, Try.results19, go_sem, hce]
    exact readp ok (some rest) w1 rfl hR hok hrk
  · refine leaves_cons (f := 39) (args := #[.pointer (some ⟨w.heap.size, 0, none⟩)]) (by simp) (by simp [go_sem]) ?_
    refine (catch_short ⟨w.heap.size, 0, none⟩ _ _ _ ck fk).mono ?_
    rintro e u' w'' ⟨rfl, rfl, o, rfl⟩
    have hlt := World.block_lt_of_cell? _ _ ck
    have hce : ((w1.alloc o).setCell ⟨w.heap.size, 0, none⟩ (.bool false)).cell? ⟨w.heap.size, 0, none⟩ = some (.bool false) := World.cell?_setCell_same _ _ _ ((World.cell?_alloc_lt w1 o _ hlt).trans ck)
    have hrk : RK w.heap.size w1 ((w1.alloc o).setCell ⟨w.heap.size, 0, none⟩ (.bool false)) := (rk_below (balloc w1 o)).trans (rk_set _ _ _)
    generalize World.setCell (World.alloc w1 _) _ _ = W9 at *
    simp [Leaves, settle, results, Try.results19, go_sem, hce]
    exact readp false none w1 rfl hR (by simp) hrk
end Go.Proofs.Ytpbdgbejcdncgaa.Wire
end

section
/- wire.right at subscriptions; the end of wire.ReadMsg. -/
namespace Go.Proofs.Ytpbdgbejcdncgaa.Wire
open Go.RowKit Flt Go.Proofs.Ytpbdgbejcdncgaa.Val Go.Lib
attribute [local go_sem] run_store_flt
theorem sizeA (w : World) (o : Obj) : (w.alloc o).heap.size = w.heap.size + 1 := by simp
abbrev msgS (k : Int) (sf : List UInt8) (c0 : Option Addr) (n cp : Nat) : Array Value := msgL k 0 0 0 [] 0 [] none 0 0 [] 0 sf c0 n cp [] none 0 0 0 [] 0
theorem msgS_size (k : Int) (sf : List UInt8) (c0 : Option Addr) (n cp : Nat) : (msgS k sf c0 n cp).size = 17 := rfl
set_option maxRecDepth 20000 in
set_option maxHeartbeats 1000000 in
theorem right_sub (k : Int) (r : Bool) (sf : List UInt8) (c0 : Option Addr) (cp : Nat) (l : List C) (w : World) (hk : (k == 0) = false) (hk12 : (k == 1) = true ∨ ((k == 1) = false ∧ (k == 2) = true)) (hl : Conds w c0 l) (hlm : l.length ≤ 1000000) (hsf : sf.length ≤ 140737488351232) (hok : ∀ x ∈ l, x.name.length ≤ 140737488351232 ∧ x.val.text.length ≤ 140737488351232) :
    Calls Try.prog 27 #[.agg (msgS k sf c0 l.length cp), .bool r] w fun e w' => e = .returned (.bool (fRight sf l)) ∧ Below w.heap.size w w' := by
  have hfr := fun W (hb : Below w.heap.size w W) => fright_any sf c0 cp l W (hl.below hb) hlm hsf hok
  generalize fRight sf l = FR at *
  have HFR := Lib.hid hfr; clear hfr hl hok
  rcases hk12 with k1 | ⟨k1, k2⟩
  all_goals
    go_enter Try.func27, Try.ntmps27
    go_wp2_with (first | (go_at_call 12; refine (HFR.out _ (balloc _ _)).mono ?_; rintro e w5 ⟨rfl, hb5⟩) | fail)
    go_ret
    exact ⟨rfl, btrans (balloc _ _) hb5⟩
theorem msg_info : (Try.prog.info? 33).map (·.size) = some 17 := by kernel_rfl
theorem msgS_one (k : Int) (sf : List UInt8) (c0 : Option Addr) (n cp : Nat) : (msgS k sf c0 n cp).all (·.oneCell') = true := by
  refine Array.all_eq_true_iff_forall_mem.2 (fun v hv => ?_)
  simp only [List.mem_toArray, List.mem_cons, List.not_mem_nil, or_false] at hv
  rcases hv with rfl | rfl | rfl | rfl | rfl | rfl | rfl | rfl | rfl | rfl | rfl | rfl | rfl | rfl | rfl | rfl | rfl <;> rfl
theorem BoxM.range {W : World} {p : Nat} {cs : Array Value} (h : BoxM W p cs) : W.rangeAt p 0 cs.toList := by
  intro j v hv
  have hj := (List.getElem?_eq_some_iff.1 hv).1
  rw [Array.length_toList] at hj
  rw [Nat.zero_add, h.c j hj, ← hv, Array.getElem?_toList]
theorem BoxM.there {W : World} {p : Nat} {cs : Array Value} (h : BoxM W p cs) : W.there p 0 cs.size := by
  intro j hj
  rw [Nat.zero_add, h.c j hj, Array.getElem?_eq_getElem hj]
  exact ⟨rfl, h.z j⟩
theorem setCells_below (p : Nat) : ∀ (vs : List Value) (o : Nat) (W : World), Below p W (W.setCells p o vs)
  | [], _, _ => Below.refl _ _
  | v :: r, o, W => ((Below.refl p W).setCell (Nat.le_refl p) v).trans (setCells_below p r (o + 1) _)
theorem msg_fin {R : Ending → World → Prop} {T : Array Value} {W9 : World} {p : Nat} {v0 v1 v2 v3 v4 v5 v6 v7 v8 v9 v10 v11 v12 v13 v14 v15 v16 : Value} (h2 : T[2]?.getD undef = .pointer (some ⟨p, 0, none⟩)) (h3 : T[3]?.getD undef = .bool true) (hr : W9.rangeAt p 0 [v0, v1, v2, v3, v4, v5, v6, v7, v8, v9, v10, v11, v12, v13, v14, v15, v16])
    (hR : R (.returned (.tuple #[.agg #[v0, v1, v2, v3, v4, v5, v6, v7, v8, v9, v10, v11, v12, v13, v14, v15, v16], .bool true])) W9) :
    bodyPost Try.prog Try.f6 R .ret { tmps := T, defers := [] } W9 := by
  have e0 : W9.cell? ⟨p, 0, none⟩ = some v0 := hr 0 v0 rfl
  have e1 : W9.cell? ⟨p, 1, none⟩ = some v1 := hr 1 v1 rfl
  have e2 : W9.cell? ⟨p, 2, none⟩ = some v2 := hr 2 v2 rfl
  have e3 : W9.cell? ⟨p, 3, none⟩ = some v3 := hr 3 v3 rfl
  have e4 : W9.cell? ⟨p, 4, none⟩ = some v4 := hr 4 v4 rfl
  have e5 : W9.cell? ⟨p, 5, none⟩ = some v5 := hr 5 v5 rfl
  have e6 : W9.cell? ⟨p, 6, none⟩ = some v6 := hr 6 v6 rfl
  have e7 : W9.cell? ⟨p, 7, none⟩ = some v7 := hr 7 v7 rfl
  have e8 : W9.cell? ⟨p, 8, none⟩ = some v8 := hr 8 v8 rfl
  have e9 : W9.cell? ⟨p, 9, none⟩ = some v9 := hr 9 v9 rfl
  have e10 : W9.cell? ⟨p, 10, none⟩ = some v10 := hr 10 v10 rfl
  have e11 : W9.cell? ⟨p, 11, none⟩ = some v11 := hr 11 v11 rfl
  have e12 : W9.cell? ⟨p, 12, none⟩ = some v12 := hr 12 v12 rfl
  have e13 : W9.cell? ⟨p, 13, none⟩ = some v13 := hr 13 v13 rfl
  have e14 : W9.cell? ⟨p, 14, none⟩ = some v14 := hr 14 v14 rfl
  have e15 : W9.cell? ⟨p, 15, none⟩ = some v15 := hr 15 v15 rfl
  have e16 : W9.cell? ⟨p, 16, none⟩ = some v16 := hr 16 v16 rfl
  refine bodyPost_ret (v := .tuple #[.agg #[v0, v1, v2, v3, v4, v5, v6, v7, v8, v9, v10, v11, v12, v13, v14, v15, v16], .bool true]) ?_ rfl hR
  simp [results, Try.results6, go_sem, h2, h3, e0, e1, e2, e3, e4, e5, e6, e7, e8, e9, e10, e11, e12, e13, e14, e15, e16]
end Go.Proofs.Ytpbdgbejcdncgaa.Wire
end
