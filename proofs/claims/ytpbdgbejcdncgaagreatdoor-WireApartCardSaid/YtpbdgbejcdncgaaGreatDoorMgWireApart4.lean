/- MERGED BY A PROGRAM OF MINE (pmg.py) out of my own texts, pruned, in their order: RdF, RdE, Wr8, Wr9, RdM, RdC, RdR, RdS, PolRead, PolRight, Fit16, EvL, ConvB. -/
import Derived.Test.YtpbdgbejcdncgaaGreatDoorMgWireApart3
import Derived.Deep.AppendLies
import Derived.Deep.RegionHeldLaw
import Derived.Defers
import Derived.Recover
import Derived.Deep.MidRow

section
/- A READER OF BYTES: a filter. -/
namespace Go.Proofs.YtpbdgbejcdncgaaGreatDoor.Wire
open Go.RowKit Flt Go.Proofs.YtpbdgbejcdncgaaGreatDoor.Val Go.Lib
variable {B : Nat}
attribute [local go_sem] run_store_flt
def decCond (s : List UInt8) : Option (C × List UInt8) := match decText s with
  | none => none
  | some (nm, t) => match decByte t with
    | none => none
    | some (c, t2) => match decVal t2 with
      | none => none
      | some (v, r) => some (⟨nm, (c.toNat : Int), v⟩, r)
def decFilter (s : List UInt8) : Option ((List UInt8 × List C) × List UInt8) := match decText s with
  | none => none
  | some (sf, t) => match decByte t with
    | none => none
    | some (c, t2) => match decMany decCond c.toNat t2 with
      | none => none
      | some (l, r) => some ((sf, l), r)
def cells7W (c : C) : List Value := [.string ⟨c.name.toArray⟩, .int .i64 c.op, .int .i64 c.val.kind, .int .i64 c.val.int, .float .f64 c.val.num, .string ⟨c.val.text.toArray⟩, .bool c.val.yes]
def flatW (l : List C) : List Value := l.flatMap cells7W
theorem flatW_at : ∀ (l : List C) (i j : Nat) (hi : i < l.length), j < 7 → (flatW l)[i * 7 + j]? = (cells7W l[i])[j]?
  | v :: l, 0, j, _, hj => by
    unfold flatW; rw [List.flatMap_cons, List.getElem?_append_left (by simp [cells7W]; omega)]; simp
  | v :: l, i + 1, j, hi, hj => by
    unfold flatW; rw [List.flatMap_cons, List.getElem?_append_right (by simp [cells7W]; omega)]
    have e : (i + 1) * 7 + j - (cells7W v).length = i * 7 + j := by simp [cells7W]; omega
    rw [e]
    exact flatW_at l i j (by simpa using hi) hj
theorem flatW_one (l : List C) : ∀ u ∈ flatW l, u.oneCell' = true := by
  intro u hu
  obtain ⟨v, _, hv⟩ := List.mem_flatMap.1 hu
  simp only [cells7W, List.mem_cons, List.not_mem_nil, or_false] at hv
  rcases hv with rfl | rfl | rfl | rfl | rfl | rfl | rfl <;> rfl
theorem cond_none1 {s : List UInt8} (h : decText s = none) : decCond s = none := by unfold decCond; rw [h]
theorem cond_none2 {s t nm : List UInt8} (h : decText s = some (nm, t)) (h2 : decByte t = none) : decCond s = none := by unfold decCond; rw [h]; dsimp only; rw [h2]
theorem cond_none3 {s t nm t2 : List UInt8} {c : UInt8} (h : decText s = some (nm, t)) (h2 : decByte t = some (c, t2)) (h3 : decVal t2 = none) : decCond s = none := by unfold decCond; rw [h]; dsimp only; rw [h2]; dsimp only; rw [h3]
theorem cond_some {s t nm t2 r : List UInt8} {c : UInt8} {v : V} (h : decText s = some (nm, t)) (h2 : decByte t = some (c, t2)) (h3 : decVal t2 = some (v, r)) : decCond s = some (⟨nm, (c.toNat : Int), v⟩, r) := by unfold decCond; rw [h]; dsimp only; rw [h2]; dsimp only; rw [h3]
theorem many_next {α : Type} {f : List UInt8 → Option (α × List UInt8)} {n k : Nat} {s rest r : List UInt8} {l : List α} {a : α} (hk : k < n) (h : decMany f n s = (decMany f (n - k) rest).map fun p => (l ++ p.1, p.2)) (h2 : f rest = some (a, r)) :
    decMany f n s = (decMany f (n - (k + 1)) r).map fun p => ((l ++ [a]) ++ p.1, p.2) := by
  rw [h, show n - k = (n - (k + 1)) + 1 from by omega]
  show Option.map _ (match f rest with | none => none | some (a, t) => match decMany f (n - (k + 1)) t with | none => none | some (l, r) => some (a :: l, r)) = _
  rw [h2]
  dsimp only
  cases decMany f (n - (k + 1)) r with
  | none => rfl
  | some p => simp
theorem many_stop {α : Type} {f : List UInt8 → Option (α × List UInt8)} {n k : Nat} {s rest : List UInt8} {l : List α} (hk : k < n) (h : decMany f n s = (decMany f (n - k) rest).map fun p => (l ++ p.1, p.2)) (h2 : f rest = none) :
    decMany f n s = none := by
  rw [h, show n - k = (n - (k + 1)) + 1 from by omega]
  show Option.map _ (match f rest with | none => none | some (a, t) => match decMany f (n - (k + 1)) t with | none => none | some (l, r) => some (a :: l, r)) = _
  rw [h2]
  rfl
theorem many_end {α : Type} {f : List UInt8 → Option (α × List UInt8)} {n : Nat} {s rest : List UInt8} {l : List α} (h : decMany f n s = (decMany f (n - n) rest).map fun p => (l ++ p.1, p.2)) : decMany f n s = some (l, rest) := by
  rw [h, Nat.sub_self]
  show some (l ++ [], rest) = _
  rw [List.append_nil]
theorem drew0 (w : World) : Below w.heap.size w w.drew := (Below.refl _ _).trans ⟨rfl, rfl, rfl, Nat.le_refl _, fun _ _ => rfl⟩
theorem info_condW : (Tryz.prog.info? 49).map (fun i => (i.zero, i.size, i.bytes)) = some (some (.agg #[.string .empty, .int .i64 0, .int .i64 0, .int .i64 0, .float .f64 0, .string .empty, .bool false]), 7, 72) := by kernel_rfl
theorem new_condW (w : World) (c : C) (e : TypeId) : ∀ j u, (flatW [c])[j]? = some u → (w.alloc (.cells #[.string ⟨c.name.toArray⟩, .int .i64 c.op, .int .i64 c.val.kind, .int .i64 c.val.int, .float .f64 c.val.num, .string ⟨c.val.text.toArray⟩, .bool c.val.yes] e)).cell? ((⟨w.heap.size, 0, none⟩ : Addr).add j) = some u := by
  intro j u hj
  have hadd : (⟨w.heap.size, 0, none⟩ : Addr).add j = ⟨w.heap.size, j, none⟩ := by unfold Addr.add; split <;> simp_all
  rw [hadd, World.cell?_alloc_at _ _ _ _ rfl]
  simpa [flatW, cells7W] using hj
theorem own_condsW {w : World} {v : Value} {l : List C} {base : Nat} (h : w.ownsRow base 49 7 v l.length (flatW l)) :
    ∃ a0 cap, v = .slice a0 l.length cap ∧ l.length ≤ cap ∧ (a0 = none → cap = 0) ∧ Conds w a0 l ∧ (∀ a, a0 = some a → base ≤ a.block) := by
  rcases h.2 with ⟨rfl, h0⟩ | ⟨g, cp, cur, rfl, hb, _, hn, _⟩
  · have : l = [] := List.eq_nil_of_length_eq_zero h0
    subst this
    exact ⟨none, 0, rfl, Nat.le_refl _, fun _ => rfl, fun i hi => absurd hi (Nat.not_lt_zero _), fun a e => by cases e⟩
  · refine ⟨some ⟨g, 0, none⟩, cp, rfl, hn, fun e => (by cases e), fun i hi => ⟨_, rfl, ?_⟩, fun a e => by injection e with e; rw [← e]; exact hb⟩
    have k : ∀ j (hj : j < 7), w.cell? ⟨g, i * 7 + j, none⟩ = (cells7W l[i])[j]? := by
      intro j hj
      have hm := flatW_at l i j hi hj
      have hc : (cells7W l[i])[j]? = some ((cells7W l[i])[j]'(by simpa [cells7W] using hj)) := by simp
      rw [hc] at hm ⊢
      have := h.cells rfl (i * 7 + j) _ hm
      have hadd : (⟨g, 0, none⟩ : Addr).add (i * 7 + j) = ⟨g, i * 7 + j, none⟩ := by unfold Addr.add; split <;> simp_all
      rw [← hadd]; exact this
    have hadd : (⟨g, 0, none⟩ : Addr).add (i * 7) = ⟨g, i * 7, none⟩ := by unfold Addr.add; split <;> simp_all
    rw [hadd]
    exact ⟨k 0 (by omega), k 1 (by omega), k 2 (by omega), k 3 (by omega), k 4 (by omega), k 5 (by omega), k 6 (by omega)⟩
/-- a filter under way: its box at q, its row -/
structure FS (B : Nat) (w D : World) (b q : Nat) (sf : List UInt8) (v : Value) (l : List C) (r : List UInt8) : Prop where
  rd : RdAt D b B r
  rk : RK b w D
  c0 : D.cell? ⟨q, 0, none⟩ = some (.string ⟨sf.toArray⟩)
  c1 : D.cell? ⟨q, 1, none⟩ = some v
  z : ∀ o, D.frozen? ⟨q, o, none⟩ = false
  own : D.ownsRow (q + 1) 49 7 v l.length (flatW l)
  p0 : D.cell? ⟨w.heap.size, 0, none⟩ = some (.string ⟨#[]⟩)
  p1 : D.cell? ⟨w.heap.size, 1, none⟩ = some (.slice none 0 0)
  pz : ∀ o, D.frozen? ⟨w.heap.size, o, none⟩ = false
  qw : w.heap.size < q
  bw : b < w.heap.size
theorem FS.cells {w D : World} {b q : Nat} {sf : List UInt8} {v : Value} {l : List C} {r : List UInt8} (h : FS B w D b q sf v l r) : D.cell? ⟨q, 0, none⟩ = some (.string ⟨sf.toArray⟩) ∧ D.cell? ⟨q, 1, none⟩ = some v ∧ D.frozen? ⟨q, 1, none⟩ = false := ⟨h.c0, h.c1, h.z 1⟩
theorem FS.qlt {w D : World} {b q : Nat} {sf : List UInt8} {v : Value} {l : List C} {r : List UInt8} (h : FS B w D b q sf v l r) : q < D.heap.size := World.block_lt_of_cell? _ _ h.c0
theorem own_rk {D D2 : World} {b base e size n : Nat} {v : Value} {xs : List Value} (h : D.ownsRow base e size v n xs) (hk : RK b D D2) (hb : b < base) : D2.ownsRow base e size v n xs := by
  have hv := fun k hk => h.lt k hk
  refine ⟨h.1, ?_⟩
  rcases h.2 with hn | ⟨g2, cap, cur, rfl, hb2, hgg, rest⟩
  · exact .inl hn
  · refine .inr ⟨g2, cap, cur, rfl, hb2, ?_, rest⟩
    rw [hk.block g2 (hv g2 (by simp [Value.ownBlock])).2 (by omega)]
    exact hgg
theorem FS.rk2 {w D D2 : World} {b q : Nat} {sf : List UInt8} {v : Value} {l : List C} {r r2 : List UInt8} (h : FS B w D b q sf v l r) (hk : RK b D D2) (hr : RdAt D2 b B r2) : FS B w D2 b q sf v l r2 := by
  have hq := h.qlt
  have hne : q ≠ b := by have := h.qw; have := h.bw; omega
  have hpb : w.heap.size ≠ b := by have := h.bw; omega
  have hpd : w.heap.size < D.heap.size := World.block_lt_of_cell? _ _ h.p0
  exact ⟨hr, h.rk.trans hk, (hk.cell (p := ⟨q, 0, none⟩) hq hne).trans h.c0, (hk.cell (p := ⟨q, 1, none⟩) hq hne).trans h.c1, fun o => (hk.frozen (p := ⟨q, o, none⟩) hq hne).trans (h.z o), own_rk h.own hk (by have := h.qw; have := h.bw; omega), (hk.cell (p := ⟨w.heap.size, 0, none⟩) hpd hpb).trans h.p0, (hk.cell (p := ⟨w.heap.size, 1, none⟩) hpd hpb).trans h.p1, fun o => (hk.frozen (p := ⟨w.heap.size, o, none⟩) hpd hpb).trans (h.pz o), h.qw, h.bw⟩
theorem FS.below {w D D2 : World} {b q : Nat} {sf : List UInt8} {v : Value} {l : List C} {r : List UInt8} (h : FS B w D b q sf v l r) (hb : Below D.heap.size D D2) : FS B w D2 b q sf v l r :=
  h.rk2 (rk_below hb) (h.rd.below hb)
/-- behind the append, and the store -/
theorem FS.put {w D D2 : World} {b q g cap : Nat} {sf : List UInt8} {v : Value} {l : List C} {c : C} {r : List UInt8} (h : FS B w D b q sf v l r) (hown : D2.ownsRow (q + 1) 49 7 (.slice (some ⟨g, 0, none⟩) (l.length + 1) cap) (l.length + 1) (flatW l ++ flatW [c])) (hgrow : D.grownBy D2 v.ownBlock) :
    (D2.cell? ⟨q, 1, none⟩ = some v ∧ D2.frozen? ⟨q, 1, none⟩ = false) ∧ FS B w (D2.setCell ⟨q, 1, none⟩ (.slice (some ⟨g, 0, none⟩) (l.length + 1) cap)) b q sf (.slice (some ⟨g, 0, none⟩) (l.length + 1) cap) (l ++ [c]) r := by
  have hq := h.qlt
  have hrow : ∀ k, v.ownBlock = some k → q + 1 ≤ k := fun k hk => (h.own.lt k hk).1
  have hne : some q ≠ v.ownBlock := fun e => by have := hrow q e.symm; omega
  have hc0 := (hgrow.cell_far ⟨q, 0, none⟩ hq hne).trans h.c0
  have hc1 := (hgrow.cell_far ⟨q, 1, none⟩ hq hne).trans h.c1
  have hz := fun o => (hgrow.frozen_far ⟨q, o, none⟩ hq hne).trans (h.z o)
  have hbw := h.bw
  have hqw := h.qw
  have hbel : Below (q + 1) D D2 := Below.grown (Below.refl _ _) hgrow (by omega) hrow
  have hpd : w.heap.size < D.heap.size := World.block_lt_of_cell? _ _ h.p0
  have hpne : some w.heap.size ≠ v.ownBlock := fun e => by have := hrow _ e.symm; omega
  have hfar : ∀ o u, (D2.setCell ⟨q, 1, none⟩ u).cell? ⟨w.heap.size, o, none⟩ = D2.cell? ⟨w.heap.size, o, none⟩ := fun o u => World.cell?_setCell_other _ _ _ _ (by intro e; injection e with e1; omega)
  refine ⟨⟨hc1, hz 1⟩, ?_, ?_, ?_, ?_, ?_, ?_, (hfar 0 _).trans ((hgrow.cell_far ⟨w.heap.size, 0, none⟩ hpd hpne).trans h.p0), (hfar 1 _).trans ((hgrow.cell_far ⟨w.heap.size, 1, none⟩ hpd hpne).trans h.p1), fun o => by simpa using (hgrow.frozen_far ⟨w.heap.size, o, none⟩ hpd hpne).trans (h.pz o), hqw, hbw⟩
  · exact rd_far (h.rd.low (hbel.mono (by omega))) (by omega)
  · exact rk_far ⟨hgrow.os.trans h.rk.os, hgrow.tape.trans h.rk.tape, hgrow.output.trans h.rk.output, Nat.le_trans h.rk.size hgrow.size, fun p hp hne2 => (hgrow.block p (Nat.lt_of_lt_of_le hp h.rk.size) (fun e => by have := hrow p e.symm; omega)).trans (h.rk.block p hp hne2)⟩ (Nat.le_of_lt hqw)
  · exact (World.cell?_setCell_other _ _ _ _ (by intro e; injection e with _ e2; exact absurd e2 (by decide))).trans hc0
  · exact World.cell?_setCell_same _ _ _ hc1
  · intro o; simpa using hz o
  · have := ownsRow_setCell_below hown (a := ⟨q, 1, none⟩) (Nat.lt_succ_self q) (.slice (some ⟨g, 0, none⟩) (l.length + 1) cap)
    simpa [flatW] using this
theorem conds_keep {W W2 : World} {a0 : Option Addr} {l : List C} (h : Conds W a0 l) (hk : ∀ a, a0 = some a → ∀ p : Addr, p.block = a.block → p.block < W.heap.size → W2.cell? p = W.cell? p) : Conds W2 a0 l := by
  intro i hi
  obtain ⟨a, e, h0, h1, h2, h3, h4, h5, h6⟩ := h i hi
  have hab : (a.add (i * 7)).block = a.block := by unfold Addr.add; split <;> rfl
  have k := fun {p : Addr} {v : Value} (hp : p.block = a.block) (hc : W.cell? p = some v) => (hk a e p hp (World.block_lt_of_cell? _ _ hc)).trans hc
  exact ⟨a, e, k hab h0, k hab h1, k hab h2, k hab h3, k hab h4, k hab h5, k hab h6⟩
theorem set2W (W : World) (p : Nat) (v0 v1 : Value) (h0 : (W.cell? ⟨p, 0, none⟩).isSome = true) (h1 : (W.cell? ⟨p, 1, none⟩).isSome = true) :
    ((W.setCell ⟨p, 0, none⟩ v0).setCell ⟨p, 1, none⟩ v1).cell? ⟨p, 0, none⟩ = some v0 ∧ ((W.setCell ⟨p, 0, none⟩ v0).setCell ⟨p, 1, none⟩ v1).cell? ⟨p, 1, none⟩ = some v1 := by
  have e := World.cell?_setCells_in p [v0, v1] 0 W (fun j hj => by
    rw [Nat.zero_add]
    match j, hj with
    | 0, _ => exact h0
    | 1, _ => exact h1)
  exact ⟨e 0 (by simp), e 1 (by simp)⟩
/-- what reading a filter tells -/
def TookF (B b : Nat) (w : World) (s : List UInt8) (e : Ending) (w' : World) : Prop :=
  (∃ (sf : List UInt8) (l : List C) (rest : List UInt8) (c0 : Option Addr) (cap : Nat), decFilter s = some ((sf, l), rest) ∧ e = .returned (ev sf c0 l.length cap) ∧ l.length ≤ cap ∧ Conds w' c0 l ∧ (∀ a, c0 = some a → w.heap.size ≤ a.block) ∧ (c0 = none → cap = 0) ∧ RdAt w' b B rest ∧ RK b w w') ∨ (decFilter s = none ∧ e = shortP ∧ RK b w w')
theorem tookf_no {b : Nat} {w w' : World} {s : List UInt8} {e : Ending} (h1 : decFilter s = none) (h2 : e = shortP) (h3 : RK b w w') : TookF B b w s e w' := .inr ⟨h1, h2, h3⟩
theorem filter_none {s t sf t2 : List UInt8} {c : UInt8} (h : decText s = some (sf, t)) (h2 : decByte t = some (c, t2)) (h3 : decMany decCond c.toNat t2 = none) : decFilter s = none := by unfold decFilter; rw [h]; dsimp only; rw [h2]; dsimp only; rw [h3]
set_option maxRecDepth 20000 in
set_option maxHeartbeats 8000000 in
theorem rfilter_any (b : Nat) (s : List UInt8) (w : World) (h : RdAt w b B s) :
    Calls Tryz.prog 33 #[.pointer (some ⟨b, 0, none⟩)] w fun e w' => TookF B b w s e w' := by
  have hbw := h.lt
  have HH := Lib.hid (h.below (balloc w (.cells #[.string ⟨#[]⟩, .slice none 0 0] 24))); clear h
  obtain ⟨i0, hi, hz0, hz1, hz2⟩ := info_parts info_condW
  go_enter Tryz.func33, Tryz.ntmps33
  go_wp2_with (first | (go_at_call 34; refine (rtext_any b s _ HH.out).mono ?_; rintro e w1 (⟨sf, t, hd, rfl, hr, hk⟩ | ⟨hd, rfl, hk⟩)) | (go_at_call 31; refine (rbyte_any b t _ (hr.below (balloc _ _))).mono ?_; rintro e w2 (⟨c, t2, hd2, rfl, hr2, hk2⟩ | ⟨hd2, rfl, hk2⟩)) | fail)
  rotate_left
  · exact ⟨rfl, tookf_no (by unfold decFilter; rw [hd]; dsimp only; rw [hd2]) rfl ((rk_below (balloc w _)).trans (hk.trans ((rk_below (balloc w1 _)).trans hk2)))⟩
  · exact ⟨rfl, tookf_no (by unfold decFilter; rw [hd]) rfl ((rk_below (balloc w _)).trans hk)⟩
  have hpw1 : w.heap.size < w1.heap.size := Nat.lt_of_lt_of_le (by simp) hk.size
  have hf0 : FS B w w2 b w1.heap.size sf (.slice none 0 0) [] t2 := by
    have hpa : ∀ o, w2.cell? ⟨w.heap.size, o, none⟩ = #[Value.string ⟨#[]⟩, .slice none 0 0][o]? := fun o => by
      rw [hk2.cell (p := ⟨w.heap.size, o, none⟩) (by simp; omega) (by simp; omega), World.cell?_alloc_lt _ _ _ hpw1, hk.cell (p := ⟨w.heap.size, o, none⟩) (by simp) (by simp; omega)]
      exact World.cell?_alloc_at _ _ _ _ rfl
    have hpz : ∀ o, w2.frozen? ⟨w.heap.size, o, none⟩ = false := fun o => by
      rw [hk2.frozen (p := ⟨w.heap.size, o, none⟩) (by simp; omega) (by simp; omega), World.frozen?_alloc_old w1 _ ⟨w.heap.size, o, none⟩ (Nat.ne_of_lt hpw1), hk.frozen (p := ⟨w.heap.size, o, none⟩) (by simp) (by simp; omega)]
      simp
    have hqa : ∀ o, w2.cell? ⟨w1.heap.size, o, none⟩ = #[Value.string ⟨sf.toArray⟩, .slice none 0 0][o]? := fun o => by
      rw [hk2.cell (p := ⟨w1.heap.size, o, none⟩) (by simp) (by simp; omega)]
      exact World.cell?_alloc_at _ _ _ _ rfl
    have hqz : ∀ o, w2.frozen? ⟨w1.heap.size, o, none⟩ = false := fun o => by
      rw [hk2.frozen (p := ⟨w1.heap.size, o, none⟩) (by simp) (by simp; omega)]
      simp
    exact ⟨hr2, (rk_below (balloc w _)).trans (hk.trans ((rk_below (balloc w1 _)).trans hk2)), hqa 0, hqa 1, hqz, World.ownsRow_nil _ _ _ _, hpa 0, hpa 1, hpz, hpw1, hbw⟩
  have HF0 := Lib.hid hf0
  clear hf0 hr hr2 hk hk2 HH
  generalize w1.heap.size = q at *
  have hc8 : c.toNat < 256 := c.toNat_lt
  have hdf : ∀ l r, decMany decCond c.toNat t2 = some (l, r) → decFilter s = some ((sf, l), r) := fun l r h => by unfold decFilter; rw [hd]; dsimp only; rw [hd2]; dsimp only; rw [h]
  have hdn := fun h => filter_none hd hd2 h
  have HDF := Lib.hid hdf; have HDN := Lib.hid hdn
  clear hdf hdn hd hd2
  generalize c.toNat = n at *
  generalize w2 = WE at *
  go_loopw [9] (fun vi wr => ∃ (k : Nat) (v : Value) (l : List C) (rest : List UInt8), k ≤ n ∧ vi = .int .i64 k ∧ l.length = k ∧ Hid (decMany decCond n t2 = (decMany decCond (n - k) rest).map fun p => (l ++ p.1, p.2)) ∧ Hid (FS B w wr b q sf v l rest)) (fun vi _ => n - (RowKit.intOf vi).toNat)
  case atStart => exact ⟨0, _, [], t2, Nat.zero_le _, rfl, rfl, Lib.hid (by simp), HF0⟩
  case round =>
    obtain ⟨k, v, l, rest, hk, rfl, hlk, HM, HF⟩ := hrel
    subst hlk
    by_cases hlt : l.length < n
    · have i1 : (l.length : Int) < (n : Int) := by omega
      go_upto_region 4 with fail
      clear HDF hbw
      refine wp_region_held_drew (S := fun _ => True) (by kernel_rfl) trivial (fun hq0 => ?_)
      replace HF := Lib.hid (HF.out.below (drew0 wr))
      generalize wr.drew = D0 at *
      (refine wpAnyH_take (i := 0) (oi := ?_) (v := ?_) ?_ (by kernel_rfl) (by kernel_rfl) (by kernel_rfl) ?_ (Or.inl ⟨?_, ?_⟩) (by assumption) ?_; rotate_left 2; (· (simp only [List.getElem?_toArray, List.getElem?_cons_zero]; first | done | rfl)); (· exact (fun _ _ _ h => h)); (· rfl); (· (intro w hSw; (try dsimp only at hSw); go_simp; (try with_reducible rfl))))
      (try simp only [Act.put, List.setIfInBounds_toArray, List.set_cons_zero, List.set_cons_succ])
      (refine wpAnyH_take (i := 2) (oi := ?_) (v := ?_) ?_ (by kernel_rfl) (by kernel_rfl) (by kernel_rfl) ?_ (Or.inl ⟨?_, ?_⟩) (by assumption) ?_; rotate_left 2; (· (simp only [List.getElem?_toArray, List.getElem?_cons_succ, List.getElem?_cons_zero]; first | done | rfl)); (· exact (fun _ _ _ h => h)); (· rfl); (· (intro w hSw; (try dsimp only at hSw); go_simp; (try with_reducible rfl))))
      (try simp only [Act.put, List.setIfInBounds_toArray, List.set_cons_zero, List.set_cons_succ])
      (refine wpAnyH_take (i := 4) (oi := ?_) (v := ?_) ?_ (by kernel_rfl) (by kernel_rfl) (by kernel_rfl) ?_ (Or.inl ⟨?_, ?_⟩) (by assumption) ?_; rotate_left 2; (· (simp only [List.getElem?_toArray, List.getElem?_cons_succ, List.getElem?_cons_zero]; first | done | rfl)); (· exact (fun _ _ _ h => h)); (· rfl); (· (intro w hSw; (try dsimp only at hSw); go_simp; (try with_reducible rfl))))
      (try simp only [Act.put, List.setIfInBounds_toArray, List.set_cons_zero, List.set_cons_succ])
      (refine wpAnyH_take (i := 6) (oi := ?_) (v := ?_) ?_ (by kernel_rfl) (by kernel_rfl) (by kernel_rfl) ?_ (Or.inl ⟨?_, ?_⟩) (by assumption) ?_; rotate_left 2; (· (simp only [List.getElem?_toArray, List.getElem?_cons_succ, List.getElem?_cons_zero]; first | done | rfl)); (· exact (fun _ _ _ h => h)); (· rfl); (· (intro w hSw; (try dsimp only at hSw); go_simp; (try with_reducible rfl))))
      (try simp only [Act.put, List.setIfInBounds_toArray, List.set_cons_zero, List.set_cons_succ])
      refine wpAnyH_ready (rs := [1, 3]) (by kernel_rfl) (by simp) ?_
      refine AllReadyH.cons (o := ?_) ?_ (fun K hK => ?_) ?_
      rotate_left 1
      · (simp only [List.getElem?_toArray, List.getElem?_cons_succ, List.getElem?_cons_zero]; first | done | rfl)
      rotate_left 1
      refine AllReadyH.cons (o := ?_) ?_ (fun K hK => ?_) AllReadyH.nil
      rotate_left 1
      · (simp only [List.getElem?_toArray, List.getElem?_cons_succ, List.getElem?_cons_zero]; first | done | rfl)
      rotate_left 1
      · skip
        obtain ⟨f0, f1, f2⟩ := HF.out.cells
        go_simp
        first | (refine hK.out _ _ trivial (fun hq1 => ?_)) | (go_wp2_with fail; refine hK.out _ _ trivial (fun hq1 => ?_))
        clear hK K
        (try simp only [Act.put, List.setIfInBounds_toArray, List.set_cons_zero, List.set_cons_succ])
        clear hq0
        clear f0 f1 f2
        refine wpAnyH_ready (rs := [3]) (by kernel_rfl) (by simp) ?_
        refine AllReadyH.cons (o := ?_) ?_ (fun K hK => ?_) AllReadyH.nil
        rotate_left 1
        · (simp only [List.getElem?_toArray, List.getElem?_cons_succ, List.getElem?_cons_zero]; first | done | rfl)
        go_simp
        go_at_call 34
        refine (rtext_any b _ D0 HF.out.rd).mono ?_
        rintro e D1 (⟨nm, t1, hd3, rfl, hr, hk⟩ | ⟨hd, rfl, hk⟩)
        rotate_left
        · clear hK
          go_wp2_with fail
          exact ⟨rfl, tookf_no (HDN.out (many_stop hlt HM.out (cond_none1 hd))) rfl (HF.out.rk.trans hk)⟩
        first | (refine hK.out _ _ trivial (fun hq2 => ?_)) | (go_wp2_with fail; refine hK.out _ _ trivial (fun hq2 => ?_))
        clear hK K
        clear hq1
        replace HF := Lib.hid (HF.out.rk2 hk hr)
        clear hk hr
        refine wpAnyH_ready (rs := [5]) (by kernel_rfl) (by simp) ?_
        refine AllReadyH.cons (o := ?_) ?_ (fun K hK => ?_) AllReadyH.nil
        rotate_left 1
        · (simp only [List.getElem?_toArray, List.getElem?_cons_succ, List.getElem?_cons_zero]; first | done | rfl)
        go_simp
        go_at_call 31
        refine (rbyte_any b _ D1 HF.out.rd).mono ?_
        rintro e D2 (⟨c3, t5, hd5, rfl, hr, hk⟩ | ⟨hd, rfl, hk⟩)
        rotate_left
        · clear hK
          go_wp2_with fail
          exact ⟨rfl, tookf_no (HDN.out (many_stop hlt HM.out (cond_none2 hd3 hd))) rfl (HF.out.rk.trans hk)⟩
        first | (refine hK.out _ _ trivial (fun hq3 => ?_)) | (go_wp2_with fail; refine hK.out _ _ trivial (fun hq3 => ?_))
        clear hK K
        clear hq2
        replace HF := Lib.hid (HF.out.rk2 hk hr)
        clear hk hr
        refine wpAnyH_ready (rs := [7]) (by kernel_rfl) (by simp) ?_
        refine AllReadyH.cons (o := ?_) ?_ (fun K hK => ?_) AllReadyH.nil
        rotate_left 1
        · (simp only [List.getElem?_toArray, List.getElem?_cons_succ, List.getElem?_cons_zero]; first | done | rfl)
        go_simp
        go_at_call 48
        refine (rvalue_any b _ D2 HF.out.rd).mono ?_
        rintro e D3 (⟨⟨k1, n1, x1, u1, y1⟩, t7, hd7, rfl, hr, hk⟩ | ⟨hd, rfl, hk⟩)
        rotate_left
        · clear hK
          go_wp2_with fail
          exact ⟨rfl, tookf_no (HDN.out (many_stop hlt HM.out (cond_none3 hd3 hd5 hd))) rfl (HF.out.rk.trans hk)⟩
        first | (refine hK.out _ _ trivial (fun hq4 => ?_)) | (go_wp2_with fail; refine hK.out _ _ trivial (fun hq4 => ?_))
        clear hK K
        clear hq3
        replace HF := Lib.hid (HF.out.rk2 hk hr)
        clear hk hr
        (refine wpAnyH_take (i := 8) (oi := ?_) (v := ?_) ?_ (by kernel_rfl) (by kernel_rfl) (by kernel_rfl) ?_ (Or.inl ⟨?_, ?_⟩) (by assumption) ?_; rotate_left 2; (· (simp only [List.getElem?_toArray, List.getElem?_cons_succ, List.getElem?_cons_zero]; first | done | rfl)); (· exact (fun _ _ _ h => h)); (· rfl); (· (intro w hSw; (try dsimp only at hSw); go_simp; (try with_reducible rfl))))
        (try simp only [Act.put, List.setIfInBounds_toArray, List.set_cons_zero, List.set_cons_succ])
        refine wpAnyH_ready (rs := [9]) (by kernel_rfl) (by simp) ?_
        refine AllReadyH.cons (o := ?_) ?_ (fun K hK => ?_) AllReadyH.nil
        rotate_left 1
        · (simp only [List.getElem?_toArray, List.getElem?_cons_succ, List.getElem?_cons_zero]; first | done | rfl)
        go_simp
        first | (refine hK.out _ _ trivial (fun hq5 => ?_)) | (go_wp2_with fail; refine hK.out _ _ trivial (fun hq5 => ?_))
        clear hK K
        (try simp only [Act.put, List.setIfInBounds_toArray, List.set_cons_zero, List.set_cons_succ])
        clear hq4
        have hnw := new_condW D3 ⟨nm, (c3.toNat : Int), ⟨k1, n1, x1, u1, y1⟩⟩ 49
        have hb := balloc D3 (.cells #[.string ⟨nm.toArray⟩, .int .i64 (c3.toNat : Int), .int .i64 k1, .int .i64 n1, .float .f64 x1, .string ⟨u1.toArray⟩, .bool y1] 49)
        generalize hD : World.alloc D3 _ = D4 at *
        replace HF := Lib.hid (HF.out.below hb)
        have HSZ := Lib.hid hb.size
        have HNW := Lib.hid hnw
        clear hb hnw hD
        generalize D3.heap.size = pn at *
        refine wpAnyH_ready (rs := [10]) (by kernel_rfl) (by simp) ?_
        refine AllReadyH.cons (o := ?_) ?_ (fun K hK => ?_) AllReadyH.nil
        rotate_left 1
        · (simp only [List.getElem?_toArray, List.getElem?_cons_succ, List.getElem?_cons_zero]; first | done | rfl)
        refine wp_append_lies _ _ _ 22 rfl (q + 1) 49 i0 (.agg #[.string .empty, .int .i64 0, .int .i64 0, .int .i64 0, .float .f64 0, .string .empty, .bool false]) 7 72 Tryz.underlying22 hi hz0 hz1 hz2 rfl (by decide) v l.length (flatW l) rfl HF.out.own ⟨pn, 0, none⟩ 1 1 (flatW [⟨nm, (c3.toNat : Int), ⟨k1, n1, x1, u1, y1⟩⟩]) rfl rfl HNW.out (flatW_one _) (by decide) (by unfold maxLen; omega) (by omega) (Nat.succ_le_of_lt HF.out.qlt) D4.heap.size rfl ?_
        intro g9 cap9 D5 hown9 hgrow9 hat9 hlt9
        first | (refine hK.out _ _ trivial (fun hq6 => ?_)) | (go_wp2_with fail; refine hK.out _ _ trivial (fun hq6 => ?_))
        clear hK K
        (try simp only [Act.put, List.setIfInBounds_toArray, List.set_cons_zero, List.set_cons_succ])
        clear hq5
        have HPUT := Lib.hid (HF.out.put (c := ⟨nm, (c3.toNat : Int), ⟨k1, n1, x1, u1, y1⟩⟩) hown9 hgrow9); clear hown9 hgrow9 hat9 hlt9
        (refine wpAnyH_take (i := 11) (oi := ?_) (v := ?_) ?_ (by kernel_rfl) (by kernel_rfl) (by kernel_rfl) ?_ (Or.inl ⟨?_, ?_⟩) (by assumption) ?_; rotate_left 2; (· (simp only [List.getElem?_toArray, List.getElem?_cons_succ, List.getElem?_cons_zero]; first | done | rfl)); (· exact (fun _ _ _ h => h)); (· rfl); (· (intro w hSw; (try dsimp only at hSw); go_simp; (try with_reducible rfl))))
        (try simp only [Act.put, List.setIfInBounds_toArray, List.set_cons_zero, List.set_cons_succ])
        refine wpAnyH_ready (rs := [12]) (by kernel_rfl) (by simp) ?_
        refine AllReadyH.cons (o := ?_) ?_ (fun K hK => ?_) AllReadyH.nil
        rotate_left 1
        · (simp only [List.getElem?_toArray, List.getElem?_cons_succ, List.getElem?_cons_zero]; first | done | rfl)
        obtain ⟨⟨f1, f2⟩, hfs⟩ := HPUT.out
        go_simp
        first | (refine hK.out _ _ trivial (fun hq7 => ?_)) | (go_wp2_with fail; refine hK.out _ _ trivial (fun hq7 => ?_))
        clear hK K
        (try simp only [Act.put, List.setIfInBounds_toArray, List.set_cons_zero, List.set_cons_succ])
        clear hq6
        refine wpAnyH_done (by kernel_rfl) ?_ _
        go_wp2_with fail
        exact ⟨⟨l.length + 1, _, l ++ [⟨nm, (c3.toNat : Int), ⟨k1, n1, x1, u1, y1⟩⟩], t7, by omega, by go_num, by simp, Lib.hid (many_next hlt HM.out (cond_some hd3 hd5 hd7)), Lib.hid hfs⟩, by simp [RowKit.intOf]; go_num⟩
      · skip
        go_simp
        go_at_call 34
        refine (rtext_any b _ D0 HF.out.rd).mono ?_
        rintro e D6 (⟨nm, t1, hd3, rfl, hr, hk⟩ | ⟨hd, rfl, hk⟩)
        rotate_left
        · clear hK
          go_wp2_with fail
          exact ⟨rfl, tookf_no (HDN.out (many_stop hlt HM.out (cond_none1 hd))) rfl (HF.out.rk.trans hk)⟩
        first | (refine hK.out _ _ trivial (fun hq1 => ?_)) | (go_wp2_with fail; refine hK.out _ _ trivial (fun hq1 => ?_))
        clear hK K
        clear hq0
        replace HF := Lib.hid (HF.out.rk2 hk hr)
        clear hk hr
        refine wpAnyH_ready (rs := [1, 5]) (by kernel_rfl) (by simp) ?_
        refine AllReadyH.cons (o := ?_) ?_ (fun K hK => ?_) ?_
        rotate_left 1
        · (simp only [List.getElem?_toArray, List.getElem?_cons_succ, List.getElem?_cons_zero]; first | done | rfl)
        rotate_left 1
        refine AllReadyH.cons (o := ?_) ?_ (fun K hK => ?_) AllReadyH.nil
        rotate_left 1
        · (simp only [List.getElem?_toArray, List.getElem?_cons_succ, List.getElem?_cons_zero]; first | done | rfl)
        rotate_left 1
        · skip
          obtain ⟨f0, f1, f2⟩ := HF.out.cells
          go_simp
          first | (refine hK.out _ _ trivial (fun hq2 => ?_)) | (go_wp2_with fail; refine hK.out _ _ trivial (fun hq2 => ?_))
          clear hK K
          (try simp only [Act.put, List.setIfInBounds_toArray, List.set_cons_zero, List.set_cons_succ])
          clear hq1
          clear f0 f1 f2
          refine wpAnyH_ready (rs := [5]) (by kernel_rfl) (by simp) ?_
          refine AllReadyH.cons (o := ?_) ?_ (fun K hK => ?_) AllReadyH.nil
          rotate_left 1
          · (simp only [List.getElem?_toArray, List.getElem?_cons_succ, List.getElem?_cons_zero]; first | done | rfl)
          go_simp
          go_at_call 31
          refine (rbyte_any b _ D6 HF.out.rd).mono ?_
          rintro e D7 (⟨c3, t5, hd5, rfl, hr, hk⟩ | ⟨hd, rfl, hk⟩)
          rotate_left
          · clear hK
            go_wp2_with fail
            exact ⟨rfl, tookf_no (HDN.out (many_stop hlt HM.out (cond_none2 hd3 hd))) rfl (HF.out.rk.trans hk)⟩
          first | (refine hK.out _ _ trivial (fun hq3 => ?_)) | (go_wp2_with fail; refine hK.out _ _ trivial (fun hq3 => ?_))
          clear hK K
          clear hq2
          replace HF := Lib.hid (HF.out.rk2 hk hr)
          clear hk hr
          refine wpAnyH_ready (rs := [7]) (by kernel_rfl) (by simp) ?_
          refine AllReadyH.cons (o := ?_) ?_ (fun K hK => ?_) AllReadyH.nil
          rotate_left 1
          · (simp only [List.getElem?_toArray, List.getElem?_cons_succ, List.getElem?_cons_zero]; first | done | rfl)
          go_simp
          go_at_call 48
          refine (rvalue_any b _ D7 HF.out.rd).mono ?_
          rintro e D8 (⟨⟨k1, n1, x1, u1, y1⟩, t7, hd7, rfl, hr, hk⟩ | ⟨hd, rfl, hk⟩)
          rotate_left
          · clear hK
            go_wp2_with fail
            exact ⟨rfl, tookf_no (HDN.out (many_stop hlt HM.out (cond_none3 hd3 hd5 hd))) rfl (HF.out.rk.trans hk)⟩
          first | (refine hK.out _ _ trivial (fun hq4 => ?_)) | (go_wp2_with fail; refine hK.out _ _ trivial (fun hq4 => ?_))
          clear hK K
          clear hq3
          replace HF := Lib.hid (HF.out.rk2 hk hr)
          clear hk hr
          (refine wpAnyH_take (i := 8) (oi := ?_) (v := ?_) ?_ (by kernel_rfl) (by kernel_rfl) (by kernel_rfl) ?_ (Or.inl ⟨?_, ?_⟩) (by assumption) ?_; rotate_left 2; (· (simp only [List.getElem?_toArray, List.getElem?_cons_succ, List.getElem?_cons_zero]; first | done | rfl)); (· exact (fun _ _ _ h => h)); (· rfl); (· (intro w hSw; (try dsimp only at hSw); go_simp; (try with_reducible rfl))))
          (try simp only [Act.put, List.setIfInBounds_toArray, List.set_cons_zero, List.set_cons_succ])
          refine wpAnyH_ready (rs := [9]) (by kernel_rfl) (by simp) ?_
          refine AllReadyH.cons (o := ?_) ?_ (fun K hK => ?_) AllReadyH.nil
          rotate_left 1
          · (simp only [List.getElem?_toArray, List.getElem?_cons_succ, List.getElem?_cons_zero]; first | done | rfl)
          go_simp
          first | (refine hK.out _ _ trivial (fun hq5 => ?_)) | (go_wp2_with fail; refine hK.out _ _ trivial (fun hq5 => ?_))
          clear hK K
          (try simp only [Act.put, List.setIfInBounds_toArray, List.set_cons_zero, List.set_cons_succ])
          clear hq4
          have hnw := new_condW D8 ⟨nm, (c3.toNat : Int), ⟨k1, n1, x1, u1, y1⟩⟩ 49
          have hb := balloc D8 (.cells #[.string ⟨nm.toArray⟩, .int .i64 (c3.toNat : Int), .int .i64 k1, .int .i64 n1, .float .f64 x1, .string ⟨u1.toArray⟩, .bool y1] 49)
          generalize hD : World.alloc D8 _ = D9 at *
          replace HF := Lib.hid (HF.out.below hb)
          have HSZ := Lib.hid hb.size
          have HNW := Lib.hid hnw
          clear hb hnw hD
          generalize D8.heap.size = pn at *
          refine wpAnyH_ready (rs := [10]) (by kernel_rfl) (by simp) ?_
          refine AllReadyH.cons (o := ?_) ?_ (fun K hK => ?_) AllReadyH.nil
          rotate_left 1
          · (simp only [List.getElem?_toArray, List.getElem?_cons_succ, List.getElem?_cons_zero]; first | done | rfl)
          refine wp_append_lies _ _ _ 22 rfl (q + 1) 49 i0 (.agg #[.string .empty, .int .i64 0, .int .i64 0, .int .i64 0, .float .f64 0, .string .empty, .bool false]) 7 72 Tryz.underlying22 hi hz0 hz1 hz2 rfl (by decide) v l.length (flatW l) rfl HF.out.own ⟨pn, 0, none⟩ 1 1 (flatW [⟨nm, (c3.toNat : Int), ⟨k1, n1, x1, u1, y1⟩⟩]) rfl rfl HNW.out (flatW_one _) (by decide) (by unfold maxLen; omega) (by omega) (Nat.succ_le_of_lt HF.out.qlt) D9.heap.size rfl ?_
          intro g9 cap9 D10 hown9 hgrow9 hat9 hlt9
          first | (refine hK.out _ _ trivial (fun hq6 => ?_)) | (go_wp2_with fail; refine hK.out _ _ trivial (fun hq6 => ?_))
          clear hK K
          (try simp only [Act.put, List.setIfInBounds_toArray, List.set_cons_zero, List.set_cons_succ])
          clear hq5
          have HPUT := Lib.hid (HF.out.put (c := ⟨nm, (c3.toNat : Int), ⟨k1, n1, x1, u1, y1⟩⟩) hown9 hgrow9); clear hown9 hgrow9 hat9 hlt9
          (refine wpAnyH_take (i := 11) (oi := ?_) (v := ?_) ?_ (by kernel_rfl) (by kernel_rfl) (by kernel_rfl) ?_ (Or.inl ⟨?_, ?_⟩) (by assumption) ?_; rotate_left 2; (· (simp only [List.getElem?_toArray, List.getElem?_cons_succ, List.getElem?_cons_zero]; first | done | rfl)); (· exact (fun _ _ _ h => h)); (· rfl); (· (intro w hSw; (try dsimp only at hSw); go_simp; (try with_reducible rfl))))
          (try simp only [Act.put, List.setIfInBounds_toArray, List.set_cons_zero, List.set_cons_succ])
          refine wpAnyH_ready (rs := [12]) (by kernel_rfl) (by simp) ?_
          refine AllReadyH.cons (o := ?_) ?_ (fun K hK => ?_) AllReadyH.nil
          rotate_left 1
          · (simp only [List.getElem?_toArray, List.getElem?_cons_succ, List.getElem?_cons_zero]; first | done | rfl)
          obtain ⟨⟨f1, f2⟩, hfs⟩ := HPUT.out
          go_simp
          first | (refine hK.out _ _ trivial (fun hq7 => ?_)) | (go_wp2_with fail; refine hK.out _ _ trivial (fun hq7 => ?_))
          clear hK K
          (try simp only [Act.put, List.setIfInBounds_toArray, List.set_cons_zero, List.set_cons_succ])
          clear hq6
          refine wpAnyH_done (by kernel_rfl) ?_ _
          go_wp2_with fail
          exact ⟨⟨l.length + 1, _, l ++ [⟨nm, (c3.toNat : Int), ⟨k1, n1, x1, u1, y1⟩⟩], t7, by omega, by go_num, by simp, Lib.hid (many_next hlt HM.out (cond_some hd3 hd5 hd7)), Lib.hid hfs⟩, by simp [RowKit.intOf]; go_num⟩
        · skip
          go_simp
          go_at_call 31
          refine (rbyte_any b _ D6 HF.out.rd).mono ?_
          rintro e D11 (⟨c3, t5, hd5, rfl, hr, hk⟩ | ⟨hd, rfl, hk⟩)
          rotate_left
          · clear hK
            go_wp2_with fail
            exact ⟨rfl, tookf_no (HDN.out (many_stop hlt HM.out (cond_none2 hd3 hd))) rfl (HF.out.rk.trans hk)⟩
          first | (refine hK.out _ _ trivial (fun hq2 => ?_)) | (go_wp2_with fail; refine hK.out _ _ trivial (fun hq2 => ?_))
          clear hK K
          clear hq1
          replace HF := Lib.hid (HF.out.rk2 hk hr)
          clear hk hr
          refine wpAnyH_ready (rs := [1, 7]) (by kernel_rfl) (by simp) ?_
          refine AllReadyH.cons (o := ?_) ?_ (fun K hK => ?_) ?_
          rotate_left 1
          · (simp only [List.getElem?_toArray, List.getElem?_cons_succ, List.getElem?_cons_zero]; first | done | rfl)
          rotate_left 1
          refine AllReadyH.cons (o := ?_) ?_ (fun K hK => ?_) AllReadyH.nil
          rotate_left 1
          · (simp only [List.getElem?_toArray, List.getElem?_cons_succ, List.getElem?_cons_zero]; first | done | rfl)
          rotate_left 1
          · skip
            obtain ⟨f0, f1, f2⟩ := HF.out.cells
            go_simp
            first | (refine hK.out _ _ trivial (fun hq3 => ?_)) | (go_wp2_with fail; refine hK.out _ _ trivial (fun hq3 => ?_))
            clear hK K
            (try simp only [Act.put, List.setIfInBounds_toArray, List.set_cons_zero, List.set_cons_succ])
            clear hq2
            clear f0 f1 f2
            refine wpAnyH_ready (rs := [7]) (by kernel_rfl) (by simp) ?_
            refine AllReadyH.cons (o := ?_) ?_ (fun K hK => ?_) AllReadyH.nil
            rotate_left 1
            · (simp only [List.getElem?_toArray, List.getElem?_cons_succ, List.getElem?_cons_zero]; first | done | rfl)
            go_simp
            go_at_call 48
            refine (rvalue_any b _ D11 HF.out.rd).mono ?_
            rintro e D12 (⟨⟨k1, n1, x1, u1, y1⟩, t7, hd7, rfl, hr, hk⟩ | ⟨hd, rfl, hk⟩)
            rotate_left
            · clear hK
              go_wp2_with fail
              exact ⟨rfl, tookf_no (HDN.out (many_stop hlt HM.out (cond_none3 hd3 hd5 hd))) rfl (HF.out.rk.trans hk)⟩
            first | (refine hK.out _ _ trivial (fun hq4 => ?_)) | (go_wp2_with fail; refine hK.out _ _ trivial (fun hq4 => ?_))
            clear hK K
            clear hq3
            replace HF := Lib.hid (HF.out.rk2 hk hr)
            clear hk hr
            (refine wpAnyH_take (i := 8) (oi := ?_) (v := ?_) ?_ (by kernel_rfl) (by kernel_rfl) (by kernel_rfl) ?_ (Or.inl ⟨?_, ?_⟩) (by assumption) ?_; rotate_left 2; (· (simp only [List.getElem?_toArray, List.getElem?_cons_succ, List.getElem?_cons_zero]; first | done | rfl)); (· exact (fun _ _ _ h => h)); (· rfl); (· (intro w hSw; (try dsimp only at hSw); go_simp; (try with_reducible rfl))))
            (try simp only [Act.put, List.setIfInBounds_toArray, List.set_cons_zero, List.set_cons_succ])
            refine wpAnyH_ready (rs := [9]) (by kernel_rfl) (by simp) ?_
            refine AllReadyH.cons (o := ?_) ?_ (fun K hK => ?_) AllReadyH.nil
            rotate_left 1
            · (simp only [List.getElem?_toArray, List.getElem?_cons_succ, List.getElem?_cons_zero]; first | done | rfl)
            go_simp
            first | (refine hK.out _ _ trivial (fun hq5 => ?_)) | (go_wp2_with fail; refine hK.out _ _ trivial (fun hq5 => ?_))
            clear hK K
            (try simp only [Act.put, List.setIfInBounds_toArray, List.set_cons_zero, List.set_cons_succ])
            clear hq4
            have hnw := new_condW D12 ⟨nm, (c3.toNat : Int), ⟨k1, n1, x1, u1, y1⟩⟩ 49
            have hb := balloc D12 (.cells #[.string ⟨nm.toArray⟩, .int .i64 (c3.toNat : Int), .int .i64 k1, .int .i64 n1, .float .f64 x1, .string ⟨u1.toArray⟩, .bool y1] 49)
            generalize hD : World.alloc D12 _ = D13 at *
            replace HF := Lib.hid (HF.out.below hb)
            have HSZ := Lib.hid hb.size
            have HNW := Lib.hid hnw
            clear hb hnw hD
            generalize D12.heap.size = pn at *
            refine wpAnyH_ready (rs := [10]) (by kernel_rfl) (by simp) ?_
            refine AllReadyH.cons (o := ?_) ?_ (fun K hK => ?_) AllReadyH.nil
            rotate_left 1
            · (simp only [List.getElem?_toArray, List.getElem?_cons_succ, List.getElem?_cons_zero]; first | done | rfl)
            refine wp_append_lies _ _ _ 22 rfl (q + 1) 49 i0 (.agg #[.string .empty, .int .i64 0, .int .i64 0, .int .i64 0, .float .f64 0, .string .empty, .bool false]) 7 72 Tryz.underlying22 hi hz0 hz1 hz2 rfl (by decide) v l.length (flatW l) rfl HF.out.own ⟨pn, 0, none⟩ 1 1 (flatW [⟨nm, (c3.toNat : Int), ⟨k1, n1, x1, u1, y1⟩⟩]) rfl rfl HNW.out (flatW_one _) (by decide) (by unfold maxLen; omega) (by omega) (Nat.succ_le_of_lt HF.out.qlt) D13.heap.size rfl ?_
            intro g9 cap9 D14 hown9 hgrow9 hat9 hlt9
            first | (refine hK.out _ _ trivial (fun hq6 => ?_)) | (go_wp2_with fail; refine hK.out _ _ trivial (fun hq6 => ?_))
            clear hK K
            (try simp only [Act.put, List.setIfInBounds_toArray, List.set_cons_zero, List.set_cons_succ])
            clear hq5
            have HPUT := Lib.hid (HF.out.put (c := ⟨nm, (c3.toNat : Int), ⟨k1, n1, x1, u1, y1⟩⟩) hown9 hgrow9); clear hown9 hgrow9 hat9 hlt9
            (refine wpAnyH_take (i := 11) (oi := ?_) (v := ?_) ?_ (by kernel_rfl) (by kernel_rfl) (by kernel_rfl) ?_ (Or.inl ⟨?_, ?_⟩) (by assumption) ?_; rotate_left 2; (· (simp only [List.getElem?_toArray, List.getElem?_cons_succ, List.getElem?_cons_zero]; first | done | rfl)); (· exact (fun _ _ _ h => h)); (· rfl); (· (intro w hSw; (try dsimp only at hSw); go_simp; (try with_reducible rfl))))
            (try simp only [Act.put, List.setIfInBounds_toArray, List.set_cons_zero, List.set_cons_succ])
            refine wpAnyH_ready (rs := [12]) (by kernel_rfl) (by simp) ?_
            refine AllReadyH.cons (o := ?_) ?_ (fun K hK => ?_) AllReadyH.nil
            rotate_left 1
            · (simp only [List.getElem?_toArray, List.getElem?_cons_succ, List.getElem?_cons_zero]; first | done | rfl)
            obtain ⟨⟨f1, f2⟩, hfs⟩ := HPUT.out
            go_simp
            first | (refine hK.out _ _ trivial (fun hq7 => ?_)) | (go_wp2_with fail; refine hK.out _ _ trivial (fun hq7 => ?_))
            clear hK K
            (try simp only [Act.put, List.setIfInBounds_toArray, List.set_cons_zero, List.set_cons_succ])
            clear hq6
            refine wpAnyH_done (by kernel_rfl) ?_ _
            go_wp2_with fail
            exact ⟨⟨l.length + 1, _, l ++ [⟨nm, (c3.toNat : Int), ⟨k1, n1, x1, u1, y1⟩⟩], t7, by omega, by go_num, by simp, Lib.hid (many_next hlt HM.out (cond_some hd3 hd5 hd7)), Lib.hid hfs⟩, by simp [RowKit.intOf]; go_num⟩
          · skip
            go_simp
            go_at_call 48
            refine (rvalue_any b _ D11 HF.out.rd).mono ?_
            rintro e D15 (⟨⟨k1, n1, x1, u1, y1⟩, t7, hd7, rfl, hr, hk⟩ | ⟨hd, rfl, hk⟩)
            rotate_left
            · clear hK
              go_wp2_with fail
              exact ⟨rfl, tookf_no (HDN.out (many_stop hlt HM.out (cond_none3 hd3 hd5 hd))) rfl (HF.out.rk.trans hk)⟩
            first | (refine hK.out _ _ trivial (fun hq3 => ?_)) | (go_wp2_with fail; refine hK.out _ _ trivial (fun hq3 => ?_))
            clear hK K
            clear hq2
            replace HF := Lib.hid (HF.out.rk2 hk hr)
            clear hk hr
            (refine wpAnyH_take (i := 8) (oi := ?_) (v := ?_) ?_ (by kernel_rfl) (by kernel_rfl) (by kernel_rfl) ?_ (Or.inl ⟨?_, ?_⟩) (by assumption) ?_; rotate_left 2; (· (simp only [List.getElem?_toArray, List.getElem?_cons_succ, List.getElem?_cons_zero]; first | done | rfl)); (· exact (fun _ _ _ h => h)); (· rfl); (· (intro w hSw; (try dsimp only at hSw); go_simp; (try with_reducible rfl))))
            (try simp only [Act.put, List.setIfInBounds_toArray, List.set_cons_zero, List.set_cons_succ])
            refine wpAnyH_ready (rs := [1, 9]) (by kernel_rfl) (by simp) ?_
            refine AllReadyH.cons (o := ?_) ?_ (fun K hK => ?_) ?_
            rotate_left 1
            · (simp only [List.getElem?_toArray, List.getElem?_cons_succ, List.getElem?_cons_zero]; first | done | rfl)
            rotate_left 1
            refine AllReadyH.cons (o := ?_) ?_ (fun K hK => ?_) AllReadyH.nil
            rotate_left 1
            · (simp only [List.getElem?_toArray, List.getElem?_cons_succ, List.getElem?_cons_zero]; first | done | rfl)
            rotate_left 1
            · skip
              obtain ⟨f0, f1, f2⟩ := HF.out.cells
              go_simp
              first | (refine hK.out _ _ trivial (fun hq4 => ?_)) | (go_wp2_with fail; refine hK.out _ _ trivial (fun hq4 => ?_))
              clear hK K
              (try simp only [Act.put, List.setIfInBounds_toArray, List.set_cons_zero, List.set_cons_succ])
              clear hq3
              clear f0 f1 f2
              refine wpAnyH_ready (rs := [9]) (by kernel_rfl) (by simp) ?_
              refine AllReadyH.cons (o := ?_) ?_ (fun K hK => ?_) AllReadyH.nil
              rotate_left 1
              · (simp only [List.getElem?_toArray, List.getElem?_cons_succ, List.getElem?_cons_zero]; first | done | rfl)
              go_simp
              first | (refine hK.out _ _ trivial (fun hq5 => ?_)) | (go_wp2_with fail; refine hK.out _ _ trivial (fun hq5 => ?_))
              clear hK K
              (try simp only [Act.put, List.setIfInBounds_toArray, List.set_cons_zero, List.set_cons_succ])
              clear hq4
              have hnw := new_condW D15 ⟨nm, (c3.toNat : Int), ⟨k1, n1, x1, u1, y1⟩⟩ 49
              have hb := balloc D15 (.cells #[.string ⟨nm.toArray⟩, .int .i64 (c3.toNat : Int), .int .i64 k1, .int .i64 n1, .float .f64 x1, .string ⟨u1.toArray⟩, .bool y1] 49)
              generalize hD : World.alloc D15 _ = D16 at *
              replace HF := Lib.hid (HF.out.below hb)
              have HSZ := Lib.hid hb.size
              have HNW := Lib.hid hnw
              clear hb hnw hD
              generalize D15.heap.size = pn at *
              refine wpAnyH_ready (rs := [10]) (by kernel_rfl) (by simp) ?_
              refine AllReadyH.cons (o := ?_) ?_ (fun K hK => ?_) AllReadyH.nil
              rotate_left 1
              · (simp only [List.getElem?_toArray, List.getElem?_cons_succ, List.getElem?_cons_zero]; first | done | rfl)
              refine wp_append_lies _ _ _ 22 rfl (q + 1) 49 i0 (.agg #[.string .empty, .int .i64 0, .int .i64 0, .int .i64 0, .float .f64 0, .string .empty, .bool false]) 7 72 Tryz.underlying22 hi hz0 hz1 hz2 rfl (by decide) v l.length (flatW l) rfl HF.out.own ⟨pn, 0, none⟩ 1 1 (flatW [⟨nm, (c3.toNat : Int), ⟨k1, n1, x1, u1, y1⟩⟩]) rfl rfl HNW.out (flatW_one _) (by decide) (by unfold maxLen; omega) (by omega) (Nat.succ_le_of_lt HF.out.qlt) D16.heap.size rfl ?_
              intro g9 cap9 D17 hown9 hgrow9 hat9 hlt9
              first | (refine hK.out _ _ trivial (fun hq6 => ?_)) | (go_wp2_with fail; refine hK.out _ _ trivial (fun hq6 => ?_))
              clear hK K
              (try simp only [Act.put, List.setIfInBounds_toArray, List.set_cons_zero, List.set_cons_succ])
              clear hq5
              have HPUT := Lib.hid (HF.out.put (c := ⟨nm, (c3.toNat : Int), ⟨k1, n1, x1, u1, y1⟩⟩) hown9 hgrow9); clear hown9 hgrow9 hat9 hlt9
              (refine wpAnyH_take (i := 11) (oi := ?_) (v := ?_) ?_ (by kernel_rfl) (by kernel_rfl) (by kernel_rfl) ?_ (Or.inl ⟨?_, ?_⟩) (by assumption) ?_; rotate_left 2; (· (simp only [List.getElem?_toArray, List.getElem?_cons_succ, List.getElem?_cons_zero]; first | done | rfl)); (· exact (fun _ _ _ h => h)); (· rfl); (· (intro w hSw; (try dsimp only at hSw); go_simp; (try with_reducible rfl))))
              (try simp only [Act.put, List.setIfInBounds_toArray, List.set_cons_zero, List.set_cons_succ])
              refine wpAnyH_ready (rs := [12]) (by kernel_rfl) (by simp) ?_
              refine AllReadyH.cons (o := ?_) ?_ (fun K hK => ?_) AllReadyH.nil
              rotate_left 1
              · (simp only [List.getElem?_toArray, List.getElem?_cons_succ, List.getElem?_cons_zero]; first | done | rfl)
              obtain ⟨⟨f1, f2⟩, hfs⟩ := HPUT.out
              go_simp
              first | (refine hK.out _ _ trivial (fun hq7 => ?_)) | (go_wp2_with fail; refine hK.out _ _ trivial (fun hq7 => ?_))
              clear hK K
              (try simp only [Act.put, List.setIfInBounds_toArray, List.set_cons_zero, List.set_cons_succ])
              clear hq6
              refine wpAnyH_done (by kernel_rfl) ?_ _
              go_wp2_with fail
              exact ⟨⟨l.length + 1, _, l ++ [⟨nm, (c3.toNat : Int), ⟨k1, n1, x1, u1, y1⟩⟩], t7, by omega, by go_num, by simp, Lib.hid (many_next hlt HM.out (cond_some hd3 hd5 hd7)), Lib.hid hfs⟩, by simp [RowKit.intOf]; go_num⟩
            · skip
              go_simp
              first | (refine hK.out _ _ trivial (fun hq4 => ?_)) | (go_wp2_with fail; refine hK.out _ _ trivial (fun hq4 => ?_))
              clear hK K
              (try simp only [Act.put, List.setIfInBounds_toArray, List.set_cons_zero, List.set_cons_succ])
              clear hq3
              have hnw := new_condW D15 ⟨nm, (c3.toNat : Int), ⟨k1, n1, x1, u1, y1⟩⟩ 49
              have hb := balloc D15 (.cells #[.string ⟨nm.toArray⟩, .int .i64 (c3.toNat : Int), .int .i64 k1, .int .i64 n1, .float .f64 x1, .string ⟨u1.toArray⟩, .bool y1] 49)
              generalize hD : World.alloc D15 _ = D18 at *
              replace HF := Lib.hid (HF.out.below hb)
              have HSZ := Lib.hid hb.size
              have HNW := Lib.hid hnw
              clear hb hnw hD
              generalize D15.heap.size = pn at *
              refine wpAnyH_ready (rs := [1]) (by kernel_rfl) (by simp) ?_
              refine AllReadyH.cons (o := ?_) ?_ (fun K hK => ?_) AllReadyH.nil
              rotate_left 1
              · (simp only [List.getElem?_toArray, List.getElem?_cons_succ, List.getElem?_cons_zero]; first | done | rfl)
              obtain ⟨f0, f1, f2⟩ := HF.out.cells
              go_simp
              first | (refine hK.out _ _ trivial (fun hq5 => ?_)) | (go_wp2_with fail; refine hK.out _ _ trivial (fun hq5 => ?_))
              clear hK K
              (try simp only [Act.put, List.setIfInBounds_toArray, List.set_cons_zero, List.set_cons_succ])
              clear hq4
              clear f0 f1 f2
              refine wpAnyH_ready (rs := [10]) (by kernel_rfl) (by simp) ?_
              refine AllReadyH.cons (o := ?_) ?_ (fun K hK => ?_) AllReadyH.nil
              rotate_left 1
              · (simp only [List.getElem?_toArray, List.getElem?_cons_succ, List.getElem?_cons_zero]; first | done | rfl)
              refine wp_append_lies _ _ _ 22 rfl (q + 1) 49 i0 (.agg #[.string .empty, .int .i64 0, .int .i64 0, .int .i64 0, .float .f64 0, .string .empty, .bool false]) 7 72 Tryz.underlying22 hi hz0 hz1 hz2 rfl (by decide) v l.length (flatW l) rfl HF.out.own ⟨pn, 0, none⟩ 1 1 (flatW [⟨nm, (c3.toNat : Int), ⟨k1, n1, x1, u1, y1⟩⟩]) rfl rfl HNW.out (flatW_one _) (by decide) (by unfold maxLen; omega) (by omega) (Nat.succ_le_of_lt HF.out.qlt) D18.heap.size rfl ?_
              intro g9 cap9 D19 hown9 hgrow9 hat9 hlt9
              first | (refine hK.out _ _ trivial (fun hq6 => ?_)) | (go_wp2_with fail; refine hK.out _ _ trivial (fun hq6 => ?_))
              clear hK K
              (try simp only [Act.put, List.setIfInBounds_toArray, List.set_cons_zero, List.set_cons_succ])
              clear hq5
              have HPUT := Lib.hid (HF.out.put (c := ⟨nm, (c3.toNat : Int), ⟨k1, n1, x1, u1, y1⟩⟩) hown9 hgrow9); clear hown9 hgrow9 hat9 hlt9
              (refine wpAnyH_take (i := 11) (oi := ?_) (v := ?_) ?_ (by kernel_rfl) (by kernel_rfl) (by kernel_rfl) ?_ (Or.inl ⟨?_, ?_⟩) (by assumption) ?_; rotate_left 2; (· (simp only [List.getElem?_toArray, List.getElem?_cons_succ, List.getElem?_cons_zero]; first | done | rfl)); (· exact (fun _ _ _ h => h)); (· rfl); (· (intro w hSw; (try dsimp only at hSw); go_simp; (try with_reducible rfl))))
              (try simp only [Act.put, List.setIfInBounds_toArray, List.set_cons_zero, List.set_cons_succ])
              refine wpAnyH_ready (rs := [12]) (by kernel_rfl) (by simp) ?_
              refine AllReadyH.cons (o := ?_) ?_ (fun K hK => ?_) AllReadyH.nil
              rotate_left 1
              · (simp only [List.getElem?_toArray, List.getElem?_cons_succ, List.getElem?_cons_zero]; first | done | rfl)
              obtain ⟨⟨f1, f2⟩, hfs⟩ := HPUT.out
              go_simp
              first | (refine hK.out _ _ trivial (fun hq7 => ?_)) | (go_wp2_with fail; refine hK.out _ _ trivial (fun hq7 => ?_))
              clear hK K
              (try simp only [Act.put, List.setIfInBounds_toArray, List.set_cons_zero, List.set_cons_succ])
              clear hq6
              refine wpAnyH_done (by kernel_rfl) ?_ _
              go_wp2_with fail
              exact ⟨⟨l.length + 1, _, l ++ [⟨nm, (c3.toNat : Int), ⟨k1, n1, x1, u1, y1⟩⟩], t7, by omega, by go_num, by simp, Lib.hid (many_next hlt HM.out (cond_some hd3 hd5 hd7)), Lib.hid hfs⟩, by simp [RowKit.intOf]; go_num⟩
    · have i1 : ¬ (l.length : Int) < (n : Int) := by omega
      obtain rfl : n = l.length := by omega
      have hdec := HDF.out _ _ (many_end HM.out)
      have HDEC := Lib.hid hdec
      obtain ⟨f0, f1, f2⟩ := HF.out.cells
      obtain ⟨a0, cap, rfl, hcap, hcn, hcs, hbl⟩ := own_condsW HF.out.own
      have x0 := HF.out.p0; have x1 := HF.out.p1; have xz := HF.out.pz
      have hpw := HF.out.qw
      clear HM HDN HDF hdec
      go_wp2_with fail
      have hend := HF.out
      obtain ⟨e0, e1⟩ := set2W wr w.heap.size (.string ⟨sf.toArray⟩) (.slice a0 l.length cap) (by rw [x0]; rfl) (by rw [x1]; rfl)
      refine bodyPost_ret (v := ev sf a0 l.length cap) (by simp [results, Tryz.results33, go_sem, e0, e1]; try rfl) rfl ?_
      refine .inl ⟨sf, l, rest, a0, cap, HDEC.out, rfl, hcap, ?_, fun a e => by have := hbl a e; omega, hcn, rd_far (rd_far hend.rd hend.bw) hend.bw, rk_far (rk_far hend.rk (Nat.le_refl _)) (Nat.le_refl _)⟩
      exact conds_keep hcs (fun a e p hp _ => (World.cell?_setCell_other _ _ _ _ (by intro e2; have := hbl a e; rw [← e2] at hp; simp at hp; omega)).trans (World.cell?_setCell_other _ _ _ _ (by intro e2; have := hbl a e; rw [← e2] at hp; simp at hp; omega)))
end Go.Proofs.YtpbdgbejcdncgaaGreatDoor.Wire
end

section
/- A READER OF BYTES: an event. -/
namespace Go.Proofs.YtpbdgbejcdncgaaGreatDoor.Wire
open Go.RowKit Flt Go.Proofs.YtpbdgbejcdncgaaGreatDoor.Val Go.Lib
variable {B : Nat}
attribute [local go_sem] run_store_flt
def cells6E (a : A) : List Value := [.string ⟨a.name.toArray⟩, .int .i64 a.val.kind, .int .i64 a.val.int, .float .f64 a.val.num, .string ⟨a.val.text.toArray⟩, .bool a.val.yes]
def flatE (l : List A) : List Value := l.flatMap cells6E
/-- a filter under way: its box at q, its row -/
structure ES (B : Nat) (w D : World) (b q : Nat) (sf : List UInt8) (v : Value) (l : List A) (r : List UInt8) : Prop where
  rd : RdAt D b B r
  rk : RK b w D
  c0 : D.cell? ⟨q, 0, none⟩ = some (.string ⟨sf.toArray⟩)
  c1 : D.cell? ⟨q, 1, none⟩ = some v
  z : ∀ o, D.frozen? ⟨q, o, none⟩ = false
  own : D.ownsRow (q + 1) 89 6 v l.length (flatE l)
  p0 : D.cell? ⟨w.heap.size, 0, none⟩ = some (.string ⟨#[]⟩)
  p1 : D.cell? ⟨w.heap.size, 1, none⟩ = some (.slice none 0 0)
  pz : ∀ o, D.frozen? ⟨w.heap.size, o, none⟩ = false
  qw : w.heap.size < q
  bw : b < w.heap.size
theorem ES.cells {w D : World} {b q : Nat} {sf : List UInt8} {v : Value} {l : List A} {r : List UInt8} (h : ES B w D b q sf v l r) : D.cell? ⟨q, 0, none⟩ = some (.string ⟨sf.toArray⟩) ∧ D.cell? ⟨q, 1, none⟩ = some v ∧ D.frozen? ⟨q, 1, none⟩ = false := ⟨h.c0, h.c1, h.z 1⟩
theorem ES.qlt {w D : World} {b q : Nat} {sf : List UInt8} {v : Value} {l : List A} {r : List UInt8} (h : ES B w D b q sf v l r) : q < D.heap.size := World.block_lt_of_cell? _ _ h.c0
theorem ES.rk2 {w D D2 : World} {b q : Nat} {sf : List UInt8} {v : Value} {l : List A} {r r2 : List UInt8} (h : ES B w D b q sf v l r) (hk : RK b D D2) (hr : RdAt D2 b B r2) : ES B w D2 b q sf v l r2 := by
  have hq := h.qlt
  have hne : q ≠ b := by have := h.qw; have := h.bw; omega
  have hpb : w.heap.size ≠ b := by have := h.bw; omega
  have hpd : w.heap.size < D.heap.size := World.block_lt_of_cell? _ _ h.p0
  exact ⟨hr, h.rk.trans hk, (hk.cell (p := ⟨q, 0, none⟩) hq hne).trans h.c0, (hk.cell (p := ⟨q, 1, none⟩) hq hne).trans h.c1, fun o => (hk.frozen (p := ⟨q, o, none⟩) hq hne).trans (h.z o), own_rk h.own hk (by have := h.qw; have := h.bw; omega), (hk.cell (p := ⟨w.heap.size, 0, none⟩) hpd hpb).trans h.p0, (hk.cell (p := ⟨w.heap.size, 1, none⟩) hpd hpb).trans h.p1, fun o => (hk.frozen (p := ⟨w.heap.size, o, none⟩) hpd hpb).trans (h.pz o), h.qw, h.bw⟩
theorem ES.below {w D D2 : World} {b q : Nat} {sf : List UInt8} {v : Value} {l : List A} {r : List UInt8} (h : ES B w D b q sf v l r) (hb : Below D.heap.size D D2) : ES B w D2 b q sf v l r :=
  h.rk2 (rk_below hb) (h.rd.below hb)
/-- behind the append, and the store -/
theorem ES.put {w D D2 : World} {b q g cap : Nat} {sf : List UInt8} {v : Value} {l : List A} {c : A} {r : List UInt8} (h : ES B w D b q sf v l r) (hown : D2.ownsRow (q + 1) 89 6 (.slice (some ⟨g, 0, none⟩) (l.length + 1) cap) (l.length + 1) (flatE l ++ flatE [c])) (hgrow : D.grownBy D2 v.ownBlock) :
    (D2.cell? ⟨q, 1, none⟩ = some v ∧ D2.frozen? ⟨q, 1, none⟩ = false) ∧ ES B w (D2.setCell ⟨q, 1, none⟩ (.slice (some ⟨g, 0, none⟩) (l.length + 1) cap)) b q sf (.slice (some ⟨g, 0, none⟩) (l.length + 1) cap) (l ++ [c]) r := by
  have hq := h.qlt
  have hrow : ∀ k, v.ownBlock = some k → q + 1 ≤ k := fun k hk => (h.own.lt k hk).1
  have hne : some q ≠ v.ownBlock := fun e => by have := hrow q e.symm; omega
  have hc0 := (hgrow.cell_far ⟨q, 0, none⟩ hq hne).trans h.c0
  have hc1 := (hgrow.cell_far ⟨q, 1, none⟩ hq hne).trans h.c1
  have hz := fun o => (hgrow.frozen_far ⟨q, o, none⟩ hq hne).trans (h.z o)
  have hbw := h.bw
  have hqw := h.qw
  have hbel : Below (q + 1) D D2 := Below.grown (Below.refl _ _) hgrow (by omega) hrow
  have hpd : w.heap.size < D.heap.size := World.block_lt_of_cell? _ _ h.p0
  have hpne : some w.heap.size ≠ v.ownBlock := fun e => by have := hrow _ e.symm; omega
  have hfar : ∀ o u, (D2.setCell ⟨q, 1, none⟩ u).cell? ⟨w.heap.size, o, none⟩ = D2.cell? ⟨w.heap.size, o, none⟩ := fun o u => World.cell?_setCell_other _ _ _ _ (by intro e; injection e with e1; omega)
  refine ⟨⟨hc1, hz 1⟩, ?_, ?_, ?_, ?_, ?_, ?_, (hfar 0 _).trans ((hgrow.cell_far ⟨w.heap.size, 0, none⟩ hpd hpne).trans h.p0), (hfar 1 _).trans ((hgrow.cell_far ⟨w.heap.size, 1, none⟩ hpd hpne).trans h.p1), fun o => by simpa using (hgrow.frozen_far ⟨w.heap.size, o, none⟩ hpd hpne).trans (h.pz o), hqw, hbw⟩
  · exact rd_far (h.rd.low (hbel.mono (by omega))) (by omega)
  · exact rk_far ⟨hgrow.os.trans h.rk.os, hgrow.tape.trans h.rk.tape, hgrow.output.trans h.rk.output, Nat.le_trans h.rk.size hgrow.size, fun p hp hne2 => (hgrow.block p (Nat.lt_of_lt_of_le hp h.rk.size) (fun e => by have := hrow p e.symm; omega)).trans (h.rk.block p hp hne2)⟩ (Nat.le_of_lt hqw)
  · exact (World.cell?_setCell_other _ _ _ _ (by intro e; injection e with _ e2; exact absurd e2 (by decide))).trans hc0
  · exact World.cell?_setCell_same _ _ _ hc1
  · intro o; simpa using hz o
  · have := ownsRow_setCell_below hown (a := ⟨q, 1, none⟩) (Nat.lt_succ_self q) (.slice (some ⟨g, 0, none⟩) (l.length + 1) cap)
    simpa [flatE] using this
end Go.Proofs.YtpbdgbejcdncgaaGreatDoor.Wire
end

section
/- A WRITER OF BYTES: the bytes of rules, events, messages. -/
namespace Go.Proofs.YtpbdgbejcdncgaaGreatDoor.Wire
open Go.RowKit Flt Go.Proofs.YtpbdgbejcdncgaaGreatDoor.Val Go.Lib
attribute [local go_sem] run_store_flt
/-- what a function that lays bytes answers -/
def Lays (w : World) (s : List UInt8) (e : Ending) (w' : World) : Prop := (∃ a0 cap, e = .returned (.slice a0 s.length cap) ∧ s.length ≤ cap ∧ cap ≤ maxLen ∧ BytesAt w' a0 s) ∧ Below w.heap.size w w'
theorem wr_new2 (w : World) (o : Obj) (T : TypeId) : Wr ((w.alloc o).alloc (.cells #[.slice none 0 0] T)) (w.heap.size + 1) [] := by
  have := wr_new (w.alloc o) (T := T)
  rwa [show (w.alloc o).heap.size = w.heap.size + 1 from by simp] at this
set_option maxRecDepth 20000 in
set_option maxHeartbeats 8000000 in
theorem eventb_any (sc : List UInt8) (a0 : Option Addr) (cap : Nat) (l : List A) (w : World) (hcl : Attrs w a0 l) (hnum : ∀ c ∈ l, c.val.num < 18446744073709551616) (hl : (encEvent sc l).length ≤ 1000000) (hlm : l.length ≤ 1000000) :
    Calls Tryz.prog 14 #[ev sc a0 l.length cap] w fun e w' => Lays w (encEvent sc l) e w' := by
  have HCL := Lib.hid hcl; have HNUM := Lib.hid hnum
  clear hcl hnum
  go_enter Tryz.func14, Tryz.ntmps14
  go_upto_region 2 with fail
  have HWR := Lib.hid (wr_new2 w (.cells #[.string ⟨sc.toArray⟩, .slice a0 l.length cap] 33) 58)
  have hbl := balloc2 w (.cells #[.string ⟨sc.toArray⟩, .slice a0 l.length cap] 33) (.cells #[.slice none 0 0] 58)
  have hx0 : ((w.alloc (.cells #[.string ⟨sc.toArray⟩, .slice a0 l.length cap] 33)).alloc (.cells #[.slice none 0 0] 58)).cell? ⟨w.heap.size, 0, none⟩ = some (.string ⟨sc.toArray⟩) := by simp
  have hx1 : ((w.alloc (.cells #[.string ⟨sc.toArray⟩, .slice a0 l.length cap] 33)).alloc (.cells #[.slice none 0 0] 58)).cell? ⟨w.heap.size, 1, none⟩ = some (.slice a0 l.length cap) := by simp
  generalize World.alloc (World.alloc w _) _ = W2 at *
  obtain ⟨b, hb⟩ : ∃ b, w.heap.size + 1 = b := ⟨_, rfl⟩
  have hle : w.heap.size ≤ b := by omega
  rw [hb] at HWR ⊢
  have HBL := Lib.hid hbl; clear hbl hb
  go_wp2_with (first | (go_at_call 26; refine (wevent_any b _ sc a0 cap l _ w HWR.out HCL.out HBL.out hle HNUM.out (by simp only [List.length_nil, Nat.zero_add]; omega) hlm).mono ?_; rintro e w5 ⟨rfl, hw5, ht5⟩; have HB5 := Lib.hid (HBL.out.trans (ht5.below HWR.out hle)); replace HWR := Lib.hid hw5; clear hw5 ht5) | (go_at_call 28; refine (wbytes_any b _ _ HWR.out (by simp only [List.nil_append]; omega)).mono ?_; rintro e w9 ⟨⟨a9, c9, rfl, h91, h92, h93⟩, hb9⟩) | fail)
  go_ret
  exact ⟨⟨a9, c9, rfl, h91, h92, h93⟩, btrans HB5.out hb9⟩
end Go.Proofs.YtpbdgbejcdncgaaGreatDoor.Wire
end

section
/- A WRITER OF BYTES: messages. -/
namespace Go.Proofs.YtpbdgbejcdncgaaGreatDoor.Wire
open Go.RowKit Flt Go.Proofs.YtpbdgbejcdncgaaGreatDoor.Val Go.Lib
attribute [local go_sem] run_store_flt
/-- a message -/
structure M where
  kind : Int
  at_ : Int
  r : Pol.R
  fs : List UInt8
  f0 : Option Addr
  fn : Nat
  fc : Nat
  es : List UInt8
  e0 : Option Addr
  en : Nat
  ec : Nat
  ver : Int
  org : List UInt8
  ser : Int
abbrev msgL (kd mat rk rt : Int) (rw_ : List UInt8) (rb : Int) (rs : List UInt8) (r0 : Option Addr) (rn rc : Nat) (rnm : List UInt8) (rp : Int) (fs : List UInt8) (f0 : Option Addr) (fn fc : Nat) (es : List UInt8) (e0 : Option Addr) (en ec : Nat) (ver : Int) (org : List UInt8) (ser : Int) : Array Value :=
  #[.int .i64 kd, .int .i64 mat, .int .i64 rk, .int .i64 rt, .string ⟨rw_.toArray⟩, .int .i64 rb, .string ⟨rs.toArray⟩, .slice r0 rn rc, .string ⟨rnm.toArray⟩, .int .i64 rp, .string ⟨fs.toArray⟩, .slice f0 fn fc, .string ⟨es.toArray⟩, .slice e0 en ec, .int .i64 ver, .string ⟨org.toArray⟩, .int .i64 ser]
abbrev mv (m : M) : Value := .agg (msgL m.kind m.at_ m.r.k.kind m.r.k.tenant m.r.k.who m.r.br m.r.sc m.r.c0 m.r.cn m.r.cc m.r.nm m.r.k.pl m.fs m.f0 m.fn m.fc m.es m.e0 m.en m.ec m.ver m.org m.ser)
/-- what stands ahead of the kinds: the box, the writer -/
theorem msg_head {W2 w : World} {T T2 : TypeId} {cs : Array Value} (h : W2 = (w.alloc (.cells cs T)).alloc (.cells #[.slice none 0 0] T2)) :
    Wr W2 (w.heap.size + 1) [] ∧ Below w.heap.size w W2 ∧ Free W2 (w.heap.size + 1) w.heap.size ∧ ∀ o, W2.cell? ⟨w.heap.size, o, none⟩ = cs[o]? := by
  subst h
  have hw := wr_new2 w (.cells cs T) T2
  refine ⟨hw, balloc2 _ _ _, hw.free (by omega), fun o => ?_⟩
  rw [World.cell?_alloc_lt _ _ _ (by simp)]
  exact World.cell?_alloc_at _ _ _ _ rfl
set_option maxRecDepth 20000 in
set_option maxHeartbeats 8000000 in
theorem msg_sub (m : M) (cs : List C) (w : World) (h0 : m.kind ≠ 0) (h3 : m.kind ≠ 3) (hcl : Conds w m.f0 cs) (hcn : m.fn = cs.length) (hnum : ∀ c ∈ cs, c.val.num < 18446744073709551616) (hl : 1 + (encFilter m.fs cs).length ≤ 1000000) (hlm : cs.length ≤ 1000000) :
    Calls Tryz.prog 9 #[mv m] w fun e w' => Lays w ([byteOf m.kind] ++ encFilter m.fs cs) e w' := by
  obtain ⟨kd, mat, ⟨⟨rk, rt, who, pl⟩, br, sc, c0, rn, cc, nm⟩, fs, f0, fn, fc, es, e0, en, ec, ver, org, ser⟩ := m
  dsimp only at *
  subst hcn
  have k0 : (kd == 0) = false := by simpa using h0
  have k3 : (kd == 3) = false := by simpa using h3
  have HCL := Lib.hid hcl; have HNUM := Lib.hid hnum
  clear hcl hnum h0 h3
  go_enter Tryz.func9, Tryz.ntmps9
  go_upto_region 2 with fail
  have hd := msg_head (w := w) (T := 35) (T2 := 58) (cs := #[.int .i64 kd, .int .i64 mat, .int .i64 rk, .int .i64 rt, .string ⟨who.toArray⟩, .int .i64 br, .string ⟨sc.toArray⟩, .slice c0 rn cc, .string ⟨nm.toArray⟩, .int .i64 pl, .string ⟨fs.toArray⟩, .slice f0 cs.length fc, .string ⟨es.toArray⟩, .slice e0 en ec, .int .i64 ver, .string ⟨org.toArray⟩, .int .i64 ser]) rfl
  generalize World.alloc (World.alloc w _) _ = W2 at *
  obtain ⟨hwr, hbl, hfr, hx⟩ := hd
  obtain ⟨b, hb⟩ : ∃ b, w.heap.size + 1 = b := ⟨_, rfl⟩
  have hle : w.heap.size ≤ b := by omega
  rw [hb] at hwr hfr ⊢
  have y0 := hx 0
  have HWR := Lib.hid hwr; have HFR := Lib.hid hfr; have HBL := Lib.hid hbl; have HB := Lib.hid (Wrote.refl b W2); have HW0 := Lib.hid hwr; have HX := Lib.hid hx
  clear hb hwr hfr hbl hx
  go_wp2_with (first | (go_at_call 22; (with_reducible refine (wbyte_one b [] kd W2 HWR.out (by decide)).mono ?_); rintro e w5 ⟨rfl, hw5, ht5⟩; have x0 := (ht5.cell HFR.out 0).trans (HX.out 0); have x10 := (ht5.cell HFR.out 10).trans (HX.out 10); have x11 := (ht5.cell HFR.out 11).trans (HX.out 11); replace HWR := Lib.hid hw5; replace HB := Lib.hid (HB.out.trans ht5); clear hw5 ht5) | (go_at_call 27; refine (wfilter_any b _ fs f0 fc cs _ w HWR.out HCL.out (HBL.out.trans (HB.out.below HW0.out hle)) hle HNUM.out (by simp only [List.nil_append, List.length_singleton]; omega) hlm).mono ?_; rintro e w6 ⟨rfl, hw5, ht5⟩; replace HWR := Lib.hid hw5; replace HB := Lib.hid (HB.out.trans ht5); clear hw5 ht5) | (go_at_call 28; refine (wbytes_any b _ _ HWR.out (by simp only [List.nil_append, List.length_append, List.length_singleton]; omega)).mono ?_; rintro e w9 ⟨⟨a9, c9, rfl, h91, h92, h93⟩, hb9⟩) | fail)
  go_ret
  exact ⟨⟨a9, c9, rfl, h91, h92, h93⟩, btrans (HBL.out.trans (HB.out.below HW0.out hle)) hb9⟩
end Go.Proofs.YtpbdgbejcdncgaaGreatDoor.Wire
end

section
/- A READER OF BYTES: a message's closure, at subscriptions; codec.Read behind a call that ends well. -/
namespace Go.Proofs.YtpbdgbejcdncgaaGreatDoor.Wire
open Go.RowKit Flt Go.Proofs.YtpbdgbejcdncgaaGreatDoor.Val Go.Lib
variable {B : Nat}
attribute [local go_sem] run_store_flt
theorem rd_near {b q o : Nat} {W : World} {u : Value} {s : List UInt8} (h : RdAt W b B s) (hq : B ≤ q) (hne : q ≠ b) : RdAt (W.setCell ⟨q, o, none⟩ u) b B s := by
  obtain ⟨⟨a0, cap, hc, h1, h2, h3, h4, h5⟩, hf, hB⟩ := h
  refine ⟨⟨a0, cap, (World.cell?_setCell_other _ _ _ _ (by intro e; injection e with e1; exact hne e1)).trans hc, h1, h2, fun i hi => ?_, h4, h5⟩, by simpa using hf, hB⟩
  obtain ⟨a, e, h6⟩ := h3 i hi
  have h7 := h5 (fun e0 => by rw [e0] at hi; simp at hi) a e
  have hab : (a.add i).block = a.block := by unfold Addr.add; split <;> rfl
  exact ⟨a, e, (World.cell?_setCell_other _ _ _ _ (by intro e2; have := congrArg Addr.block e2; rw [hab] at this; have : q = a.block := this; omega)).trans h6⟩
/-- a box of many cells -/
structure BoxM (W : World) (p : Nat) (cs : Array Value) : Prop where
  c : ∀ o, o < cs.size → W.cell? ⟨p, o, none⟩ = cs[o]?
  z : ∀ o, W.frozen? ⟨p, o, none⟩ = false
  pos : 0 < cs.size
theorem BoxM.lt {W : World} {p : Nat} {cs : Array Value} (h : BoxM W p cs) : p < W.heap.size := by
  have := h.c 0 h.pos
  rw [Array.getElem?_eq_getElem h.pos] at this
  exact World.block_lt_of_cell? _ _ this
theorem BoxM.rk {W W2 : World} {p b : Nat} {cs : Array Value} (h : BoxM W p cs) (hk : RK b W W2) (hne : p ≠ b) : BoxM W2 p cs :=
  ⟨fun o ho => (hk.cell (p := ⟨p, o, none⟩) h.lt hne).trans (h.c o ho), fun o => (hk.frozen (p := ⟨p, o, none⟩) h.lt hne).trans (h.z o), h.pos⟩
theorem BoxM.below {W W2 : World} {p : Nat} {cs : Array Value} (h : BoxM W p cs) (hb : Below W.heap.size W W2) : BoxM W2 p cs :=
  ⟨fun o ho => (hb.cell (p := ⟨p, o, none⟩) h.lt).trans (h.c o ho), fun o => (hb.frozen (p := ⟨p, o, none⟩) h.lt).trans (h.z o), h.pos⟩
theorem BoxM.other {W : World} {p q o : Nat} {u : Value} {cs : Array Value} (h : BoxM W p cs) (hne : p ≠ q) : BoxM (W.setCell ⟨q, o, none⟩ u) p cs :=
  ⟨fun o2 ho => (World.cell?_setCell_other _ _ _ _ (by intro e; injection e with e1; exact hne e1.symm)).trans (h.c o2 ho), fun o2 => by simpa using h.z o2, h.pos⟩
theorem BoxM.set {W : World} {p i : Nat} {u : Value} {cs : Array Value} (h : BoxM W p cs) (hi : i < cs.size) : BoxM (W.setCell ⟨p, i, none⟩ u) p (cs.setIfInBounds i u) := by
  refine ⟨fun o ho => ?_, fun o2 => by simpa using h.z o2, by simpa using h.pos⟩
  rw [Array.size_setIfInBounds] at ho
  rw [Array.getElem?_setIfInBounds]
  by_cases e : i = o
  · subst e
    rw [if_pos rfl, if_pos hi]
    have := h.c i hi
    rw [Array.getElem?_eq_getElem hi] at this
    exact World.cell?_setCell_same _ _ _ this
  · rw [if_neg e]
    exact (World.cell?_setCell_other _ _ _ _ (by intro e2; injection e2 with _ e3; exact e e3)).trans (h.c o ho)
theorem boxm_new (w : World) (cs : Array Value) (T : TypeId) (h : 0 < cs.size) : BoxM (w.alloc (.cells cs T)) w.heap.size cs :=
  ⟨fun o _ => World.cell?_alloc_at _ _ _ _ rfl, fun o => by simp, h⟩
/-- what may turn: the reader's box, and another one -/
structure RM (b q : Nat) (W W2 : World) : Prop where
  os : W2.os = W.os
  tape : W2.tape = W.tape
  output : W2.output = W.output
  size : W.heap.size ≤ W2.heap.size
  block : ∀ p, p < W.heap.size → p ≠ b → p ≠ q → W2.heap[p]? = W.heap[p]?
theorem rm_rk {b q : Nat} {W W2 : World} (h : RK b W W2) : RM b q W W2 := ⟨h.os, h.tape, h.output, h.size, fun p hp h1 _ => h.block p hp h1⟩
theorem RM.trans {b q : Nat} {W W2 W3 : World} (h : RM b q W W2) (k : RM b q W2 W3) : RM b q W W3 :=
  ⟨k.os.trans h.os, k.tape.trans h.tape, k.output.trans h.output, Nat.le_trans h.size k.size, fun p hp h1 h2 => (k.block p (Nat.lt_of_lt_of_le hp h.size) h1 h2).trans (h.block p hp h1 h2)⟩
theorem rm_set (b q o : Nat) (W : World) (u : Value) : RM b q W (W.setCell ⟨q, o, none⟩ u) := ⟨rfl, rfl, rfl, by simp, fun p _ _ h2 => Below.heap_setCell _ _ _ _ h2⟩
theorem BoxM.rm {W W2 : World} {p b q : Nat} {cs : Array Value} (h : BoxM W p cs) (hk : RM b q W W2) (h1 : p ≠ b) (h2 : p ≠ q) : BoxM W2 p cs := by
  have e := hk.block p h.lt h1 h2
  exact ⟨fun o ho => (World.cell?_of_block (w := W) (a := ⟨p, o, none⟩) e).trans (h.c o ho), fun o => (World.frozen?_of_block (w := W) (a := ⟨p, o, none⟩) e).trans (h.z o), h.pos⟩
abbrev msgZ : Array Value := msgL 0 0 0 0 [] 0 [] none 0 0 [] 0 [] none 0 0 [] none 0 0 0 [] 0
set_option maxRecDepth 20000 in
set_option maxHeartbeats 4000000 in
theorem clo_sub (b bm br bk : Nat) (c : UInt8) (t sf rest : List UInt8) (l : List C) (w : World) (h : RdAt w b B (c :: t)) (hc : c = 1 ∨ c = 2) (hd : decFilter t = some ((sf, l), rest)) (hm : BoxM w bm msgZ) (hBm : B ≤ bm) (hmb : bm ≠ b) :
    Calls Tryz.prog 30 #[.pointer (some ⟨b, 0, none⟩), .pointer (some ⟨bm, 0, none⟩), .pointer (some ⟨br, 0, none⟩), .pointer (some ⟨bk, 0, none⟩)] w fun e w' => e = .returned (.tuple #[]) ∧ ∃ (c0 : Option Addr) (cap : Nat), BoxM w' bm (msgL (c.toNat : Int) 0 0 0 [] 0 [] none 0 0 [] 0 sf c0 l.length cap [] none 0 0 0 [] 0) ∧ l.length ≤ cap ∧ Conds w' c0 l ∧ (∀ a, c0 = some a → w.heap.size ≤ a.block) ∧ (c0 = none → cap = 0) ∧ RdAt w' b B rest ∧ RM b bm w w' := by
  have HH := Lib.hid h; have HM := Lib.hid hm
  clear h hm
  obtain ⟨k, hk, k0, k12⟩ : ∃ k : Int, (c.toNat : Int) = k ∧ (k == 0) = false ∧ ((k == 1) = true ∨ ((k == 1) = false ∧ (k == 2) = true)) := by
    rcases hc with rfl | rfl
    · exact ⟨1, rfl, rfl, .inl rfl⟩
    · exact ⟨2, rfl, rfl, .inr ⟨rfl, rfl⟩⟩
  have hbml := HM.out.lt
  rcases k12 with k1 | ⟨k1, k2⟩
  all_goals
    go_enter Tryz.func30, Tryz.ntmps30
    go_wp2_with (first | (go_at_call 31; refine (rbyte_any b (c :: t) w HH.out).mono ?_; rintro e w1 h1; obtain ⟨rfl, hr1, hk1⟩ := took_some h1; have HM1 := Lib.hid (HM.out.rk hk1 hmb); have x0 : w1.cell? ⟨bm, 0, none⟩ = some (.int .i64 0) := HM1.out.c 0 (by decide); have xz := HM1.out.z 0; clear h1) | (go_at_call 33; refine (rfilter_any b t _ (rd_near hr1 hBm hmb)).mono ?_; rintro e w3 (⟨sf', l', rest', c0, cap, hd', rfl, hcap, hcs, hbl, hcn, hr3, hk3⟩ | ⟨hd', _⟩); rotate_left; (rw [hd] at hd'; cases hd'); (rw [hd] at hd'; injection hd' with hd'; injection hd' with e1 e2; injection e1 with e1 e3; subst e1; subst e2; subst e3); have HM3 := Lib.hid ((HM1.out.set (i := 0) (u := .int .i64 k) (by decide)).rk hk3 hmb); have y10 : w3.cell? ⟨bm, 10, none⟩ = some (.string ⟨#[]⟩) := HM3.out.c 10 (by simp only [Array.size_setIfInBounds]; decide); have y11 : w3.cell? ⟨bm, 11, none⟩ = some (.slice none 0 0) := HM3.out.c 11 (by simp only [Array.size_setIfInBounds]; decide); have yz := HM3.out.z) | fail)
    first | go_end0 | refine bodyPost_ret (results_none rfl _ _ _) rfl ?_
    have hsz : w.heap.size ≤ w1.heap.size := hk1.size
    have hbq : ∀ a, c0 = some a → w1.heap.size ≤ a.block := fun a e => by have := hbl a e; simpa using this
    refine ⟨rfl, c0, cap, ?_, hcap, ?_, fun a e => Nat.le_trans hsz (hbq a e), hcn, rd_near (rd_near hr3 hBm hmb) hBm hmb, ?_⟩
    · rw [hk]
      exact (HM3.out.set (i := 10) (u := .string ⟨sf.toArray⟩) (by simp only [Array.size_setIfInBounds]; decide)).set (i := 11) (u := .slice c0 l.length cap) (by simp only [Array.size_setIfInBounds]; decide)
    · exact conds_keep hcs (fun a e p hp _ => (World.cell?_setCell_other _ _ _ _ (by intro e2; have := hbq a e; rw [← e2] at hp; simp at hp; omega)).trans (World.cell?_setCell_other _ _ _ _ (by intro e2; have := hbq a e; rw [← e2] at hp; simp at hp; omega)))
    · exact (rm_rk hk1).trans ((rm_set _ _ _ _ _).trans ((rm_rk hk3).trans ((rm_set _ _ _ _ _).trans (rm_set _ _ _ _ _))))
end Go.Proofs.YtpbdgbejcdncgaaGreatDoor.Wire
end

section
/- codec.Read's deferred closure: what it does where nothing was thrown, and where 'short' was. -/
namespace Go.Proofs.YtpbdgbejcdncgaaGreatDoor.Wire
open Go.RowKit Flt Go.Proofs.YtpbdgbejcdncgaaGreatDoor.Val Go.Lib
variable {B : Nat}
theorem catch_idle (p : Addr) (w : World) :
    CallsD Tryz.prog 47 #[.pointer (some p)] .returning w fun e u' w' => e = .returned (.tuple #[]) ∧ u' = .returning ∧ w' = w := by
  refine callsD_of_wpS Tryz.func47 rfl fun c₀ cs hu => ?_
  apply wpS_seq
  apply wpS_region
  simp [wpOpsS, go_sem, recoverD, hu, Tryz.ntmps47, Exit.thenS]
  refine wpS_of_wp ?_
  rw [show (#[Value.pointer (some p)] ++ (Array.replicate 9 undef).setIfInBounds 3 Value.nilIface) = #[.pointer (some p), undef, undef, undef, .nilIface, undef, undef, undef, undef, undef] from rfl]
  have heq : ∀ w : World, (binOp BinOp.eql 20 .nilIface .nilIface).run Tryz.prog w = .ok (.bool true) w := fun _ => by kernel_rfl
  go_wp2
  cases c₀
  simp_all [bodyPostS, results, Tryz.results47]
set_option maxRecDepth 20000 in
theorem catch_short (p : Addr) (v : Value) (older : List PanicEntry) (w : World) (hc : w.cell? p = some v) (hz : w.frozen? p = false) :
    CallsD Tryz.prog 47 #[.pointer (some p)] (.panicking ({ v := .iface 93 (.agg #[]), recovered := false } :: older)) w fun e u' w' => e = .returned (.tuple #[]) ∧ u' = .panicking ({ v := .iface 93 (.agg #[]), recovered := true } :: older) ∧ ∃ o, w' = (w.alloc o).setCell p (.bool false) := by
  refine callsD_of_wpS Tryz.func47 rfl fun c₀ cs hu => ?_
  apply wpS_seq
  apply wpS_region
  simp [wpOpsS, go_sem, recoverD, hu, Tryz.ntmps47, Exit.thenS]
  refine wpS_of_wp ?_
  rw [show (#[Value.pointer (some p)] ++ (Array.replicate 9 undef).setIfInBounds 3 (Value.iface 93 (.agg #[]))) = #[.pointer (some p), undef, undef, undef, .iface 93 (.agg #[]), undef, undef, undef, undef, undef] from rfl]
  have heq : ∀ w : World, (binOp BinOp.eql 20 (.iface 93 (.agg #[])) .nilIface).run Tryz.prog w = .ok (.bool false) w := fun _ => by kernel_rfl
  have hta : ∀ w : World, (Instr.typeAssert (.iface 93 (.agg #[])) 20 93 true).run Tryz.prog w = .ok (.tuple #[.agg #[], .bool true]) w := fun _ => by kernel_rfl
  have hlt := World.block_lt_of_cell? _ _ hc
  have hc2 : ∀ o : Obj, (w.alloc o).cell? p = some v := fun o => (World.cell?_alloc_lt w o p hlt).trans hc
  have hz2 : ∀ o : Obj, (w.alloc o).frozen? p = false := fun o => (World.frozen?_alloc_old w o p (Nat.ne_of_lt hlt)).trans hz
  clear hc hz
  go_wp2
  exact ⟨rfl, _, rfl, .tuple #[], by simp [results, Tryz.results47], rfl, rfl, _, rfl⟩
/-- what codec.Read answers: whether its call ended well, and all was read -/
def ReadP (R : Option (List UInt8) → World → Prop) (p : Nat) (e : Ending) (w' : World) : Prop := ∃ (ok : Bool) (x : Option (List UInt8)) (w1 : World), e = .returned (.bool ok) ∧ R x w1 ∧ (ok = true ↔ x = some []) ∧ RK p w1 w'
theorem readp {R : Option (List UInt8) → World → Prop} {p : Nat} {e : Ending} {w' : World} (ok : Bool) (x : Option (List UInt8)) (w1 : World) (h1 : e = .returned (.bool ok)) (h2 : R x w1) (h3 : ok = true ↔ x = some []) (h4 : RK p w1 w') : ReadP R p e w' := ⟨ok, x, w1, h1, h2, h3, h4⟩
theorem rd_start {w : World} {a0 : Option Addr} {cap : Nat} {s : List UInt8} {T T2 : TypeId} (h : BytesAt w a0 s) (h1 : s.length ≤ cap) (h2 : cap ≤ maxLen) (h3 : a0 = none → cap = 0) (hB : B ≤ w.heap.size) (hb : s ≠ [] → ∀ a, a0 = some a → a.block < B) :
    RdAt ((w.alloc (.cells #[.bool false] T)).alloc (.cells #[.slice a0 s.length cap] T2)) (w.heap.size + 1) B s := by
  refine ⟨⟨a0, cap, ?_, h1, h2, h.below (balloc2 _ _ _), h3, hb⟩, by simp, by omega⟩
  rw [← show (w.alloc (.cells #[.bool false] T)).heap.size = w.heap.size + 1 from by simp]
  exact World.cell?_alloc_at _ _ _ _ rfl
/-- what lies where bytes lie -/
theorem bytes_low {w : World} {a0 : Option Addr} {s : List UInt8} (h : BytesAt w a0 s) : s ≠ [] → ∀ a, a0 = some a → a.block < w.heap.size := fun hne a e => by
  obtain ⟨a2, e2, h4⟩ := h 0 (List.length_pos_iff.2 hne)
  rw [e] at e2
  injection e2 with e2
  subst e2
  have hab : (a.add 0).block = a.block := by unfold Addr.add; split <;> rfl
  have := World.block_lt_of_cell? _ _ h4
  rwa [hab] at this
set_option maxRecDepth 20000 in
set_option maxHeartbeats 4000000 in
theorem read_msg (a0 : Option Addr) (cap : Nat) (s : List UInt8) (p1 p2 p3 : Addr) (w : World) (R : Option (List UInt8) → World → Prop)
    (hc : ∀ W, Below w.heap.size w W → RdAt W (w.heap.size + 1) B s → Calls Tryz.prog 30 #[.pointer (some ⟨w.heap.size + 1, 0, none⟩), .pointer (some p1), .pointer (some p2), .pointer (some p3)] W fun e w' => (∃ rest, e = .returned (.tuple #[]) ∧ RdAt w' (w.heap.size + 1) B rest ∧ w'.cell? ⟨w.heap.size, 0, none⟩ = W.cell? ⟨w.heap.size, 0, none⟩ ∧ w'.frozen? ⟨w.heap.size, 0, none⟩ = W.frozen? ⟨w.heap.size, 0, none⟩ ∧ R (some rest) w') ∨ (e = shortP ∧ w'.cell? ⟨w.heap.size, 0, none⟩ = W.cell? ⟨w.heap.size, 0, none⟩ ∧ w'.frozen? ⟨w.heap.size, 0, none⟩ = W.frozen? ⟨w.heap.size, 0, none⟩ ∧ R none w'))
    (hby : BytesAt w a0 s) (hcap : s.length ≤ cap) (hcm : cap ≤ maxLen) (hn : a0 = none → cap = 0) (hB : B ≤ w.heap.size) (hlow : s ≠ [] → ∀ a, a0 = some a → a.block < B) :
    Calls Tryz.prog 29 #[.slice a0 s.length cap, .func (Fn.func 30) #[] #[.pointer (some p1), .pointer (some p2), .pointer (some p3)]] w fun e w' => ReadP R w.heap.size e w' := by
  have hmf : ∀ (fn : Fn) (first cap : Array Value) (w : World), (Instr.makeFunc fn first cap).run Tryz.prog w = .ok (.func fn first cap) w := fun _ _ _ _ => rfl
  have HC := Lib.hid hc; have HBY := Lib.hid hby; have HN := Lib.hid hn; have HLOW := Lib.hid hlow
  clear hc hby hn hlow
  go_enter_defers Tryz.func29, Tryz.ntmps29
  go_wp2_with (first | (go_at_call 30; refine (HC.out _ (balloc2 _ _ _) (rd_start HBY.out hcap hcm HN.out hB HLOW.out)).mono ?_; rintro e w1 (⟨rest, rfl, hr, hcok, hfok, hR⟩ | ⟨rfl, hcok, hfok, hR⟩); (obtain ⟨⟨a1, cap1, hc1, h11, h12, h13, h14, h15⟩, hz1, hB1⟩ := hr); all_goals (have ck : w1.cell? ⟨w.heap.size, 0, none⟩ = some (.bool false) := hcok.trans (by simp)); all_goals (have fk : w1.frozen? ⟨w.heap.size, 0, none⟩ = false := hfok.trans (by simp))) | fail)
  · refine leaves_cons (f := 47) (args := #[.pointer (some ⟨w.heap.size, 0, none⟩)]) (by simp) (by simp [go_sem]) ?_
    refine (catch_idle ⟨w.heap.size, 0, none⟩ _).mono ?_
    rintro e u' w'' ⟨rfl, rfl, rfl⟩
    have hce : (w1.setCell ⟨w.heap.size, 0, none⟩ (.bool ((rest.length : Int) == 0))).cell? ⟨w.heap.size, 0, none⟩ = some (.bool ((rest.length : Int) == 0)) := World.cell?_setCell_same _ _ _ ck
    have hrk := rk_set w.heap.size w1 (.bool ((rest.length : Int) == 0))
    generalize World.setCell w1 _ _ = W9 at *
    have hok : (((rest.length : Int) == 0) = true ↔ some rest = some []) := by
      rw [beq_iff_eq]
      constructor
      · intro e; rw [List.eq_nil_of_length_eq_zero (l := rest) (by omega)]
      · intro e; injection e with e; rw [e]; rfl
    generalize ((rest.length : Int) == 0) = ok at *
    simp [Leaves, settle, results, Tryz.results29, go_sem, hce]
    exact readp ok (some rest) w1 rfl hR hok hrk
  · refine leaves_cons (f := 47) (args := #[.pointer (some ⟨w.heap.size, 0, none⟩)]) (by simp) (by simp [go_sem]) ?_
    refine (catch_short ⟨w.heap.size, 0, none⟩ _ _ _ ck fk).mono ?_
    rintro e u' w'' ⟨rfl, rfl, o, rfl⟩
    have hlt := World.block_lt_of_cell? _ _ ck
    have hce : ((w1.alloc o).setCell ⟨w.heap.size, 0, none⟩ (.bool false)).cell? ⟨w.heap.size, 0, none⟩ = some (.bool false) := World.cell?_setCell_same _ _ _ ((World.cell?_alloc_lt w1 o _ hlt).trans ck)
    have hrk : RK w.heap.size w1 ((w1.alloc o).setCell ⟨w.heap.size, 0, none⟩ (.bool false)) := (rk_below (balloc w1 o)).trans (rk_set _ _ _)
    generalize World.setCell (World.alloc w1 _) _ _ = W9 at *
    simp [Leaves, settle, results, Tryz.results29, go_sem, hce]
    exact readp false none w1 rfl hR (by simp) hrk
end Go.Proofs.YtpbdgbejcdncgaaGreatDoor.Wire
end

section
/- wire.right at subscriptions; the end of wire.ReadMsg. -/
namespace Go.Proofs.YtpbdgbejcdncgaaGreatDoor.Wire
open Go.RowKit Flt Go.Proofs.YtpbdgbejcdncgaaGreatDoor.Val Go.Lib
attribute [local go_sem] run_store_flt
theorem sizeA (w : World) (o : Obj) : (w.alloc o).heap.size = w.heap.size + 1 := by simp
abbrev msgS (k : Int) (sf : List UInt8) (c0 : Option Addr) (n cp : Nat) : Array Value := msgL k 0 0 0 [] 0 [] none 0 0 [] 0 sf c0 n cp [] none 0 0 0 [] 0
theorem msgS_size (k : Int) (sf : List UInt8) (c0 : Option Addr) (n cp : Nat) : (msgS k sf c0 n cp).size = 17 := rfl
set_option maxRecDepth 20000 in
set_option maxHeartbeats 1000000 in
theorem right_sub (k : Int) (r : Bool) (sf : List UInt8) (c0 : Option Addr) (cp : Nat) (l : List C) (w : World) (hk : (k == 0) = false) (hk12 : (k == 1) = true ∨ ((k == 1) = false ∧ (k == 2) = true)) (hl : Conds w c0 l) (hlm : l.length ≤ 1000000) (hsf : sf.length ≤ 140737488351232) (hok : ∀ x ∈ l, x.name.length ≤ 140737488351232 ∧ x.val.text.length ≤ 140737488351232) :
    Calls Tryz.prog 37 #[.agg (msgS k sf c0 l.length cp), .bool r] w fun e w' => e = .returned (.bool (fRight sf l)) ∧ Below w.heap.size w w' := by
  have hfr := fun W (hb : Below w.heap.size w W) => fright_any sf c0 cp l W (hl.below hb) hlm hsf hok
  generalize fRight sf l = FR at *
  have HFR := Lib.hid hfr; clear hfr hl hok
  rcases hk12 with k1 | ⟨k1, k2⟩
  all_goals
    go_enter Tryz.func37, Tryz.ntmps37
    go_wp2_with (first | (go_at_call 6; refine (HFR.out _ (balloc _ _)).mono ?_; rintro e w5 ⟨rfl, hb5⟩) | fail)
    go_ret
    exact ⟨rfl, btrans (balloc _ _) hb5⟩
theorem msg_info : (Tryz.prog.info? 35).map (·.size) = some 17 := by kernel_rfl
theorem msgS_one (k : Int) (sf : List UInt8) (c0 : Option Addr) (n cp : Nat) : (msgS k sf c0 n cp).all (·.oneCell') = true := by
  refine Array.all_eq_true_iff_forall_mem.2 (fun v hv => ?_)
  simp only [List.mem_toArray, List.mem_cons, List.not_mem_nil, or_false] at hv
  rcases hv with rfl | rfl | rfl | rfl | rfl | rfl | rfl | rfl | rfl | rfl | rfl | rfl | rfl | rfl | rfl | rfl | rfl <;> rfl
theorem BoxM.range {W : World} {p : Nat} {cs : Array Value} (h : BoxM W p cs) : W.rangeAt p 0 cs.toList := by
  intro j v hv
  have hj := (List.getElem?_eq_some_iff.1 hv).1
  rw [Array.length_toList] at hj
  rw [Nat.zero_add, h.c j hj, ← hv, Array.getElem?_toList]
theorem BoxM.there {W : World} {p : Nat} {cs : Array Value} (h : BoxM W p cs) : W.there p 0 cs.size := by
  intro j hj
  rw [Nat.zero_add, h.c j hj, Array.getElem?_eq_getElem hj]
  exact ⟨rfl, h.z j⟩
theorem setCells_below (p : Nat) : ∀ (vs : List Value) (o : Nat) (W : World), Below p W (W.setCells p o vs)
  | [], _, _ => Below.refl _ _
  | v :: r, o, W => ((Below.refl p W).setCell (Nat.le_refl p) v).trans (setCells_below p r (o + 1) _)
theorem msg_fin {R : Ending → World → Prop} {T : Array Value} {W9 : World} {p : Nat} {v0 v1 v2 v3 v4 v5 v6 v7 v8 v9 v10 v11 v12 v13 v14 v15 v16 : Value} (h2 : T[2]?.getD undef = .pointer (some ⟨p, 0, none⟩)) (h3 : T[3]?.getD undef = .bool true) (hr : W9.rangeAt p 0 [v0, v1, v2, v3, v4, v5, v6, v7, v8, v9, v10, v11, v12, v13, v14, v15, v16])
    (hR : R (.returned (.tuple #[.agg #[v0, v1, v2, v3, v4, v5, v6, v7, v8, v9, v10, v11, v12, v13, v14, v15, v16], .bool true])) W9) :
    bodyPost Tryz.prog Tryz.f10 R .ret { tmps := T, defers := [] } W9 := by
  have e0 : W9.cell? ⟨p, 0, none⟩ = some v0 := hr 0 v0 rfl
  have e1 : W9.cell? ⟨p, 1, none⟩ = some v1 := hr 1 v1 rfl
  have e2 : W9.cell? ⟨p, 2, none⟩ = some v2 := hr 2 v2 rfl
  have e3 : W9.cell? ⟨p, 3, none⟩ = some v3 := hr 3 v3 rfl
  have e4 : W9.cell? ⟨p, 4, none⟩ = some v4 := hr 4 v4 rfl
  have e5 : W9.cell? ⟨p, 5, none⟩ = some v5 := hr 5 v5 rfl
  have e6 : W9.cell? ⟨p, 6, none⟩ = some v6 := hr 6 v6 rfl
  have e7 : W9.cell? ⟨p, 7, none⟩ = some v7 := hr 7 v7 rfl
  have e8 : W9.cell? ⟨p, 8, none⟩ = some v8 := hr 8 v8 rfl
  have e9 : W9.cell? ⟨p, 9, none⟩ = some v9 := hr 9 v9 rfl
  have e10 : W9.cell? ⟨p, 10, none⟩ = some v10 := hr 10 v10 rfl
  have e11 : W9.cell? ⟨p, 11, none⟩ = some v11 := hr 11 v11 rfl
  have e12 : W9.cell? ⟨p, 12, none⟩ = some v12 := hr 12 v12 rfl
  have e13 : W9.cell? ⟨p, 13, none⟩ = some v13 := hr 13 v13 rfl
  have e14 : W9.cell? ⟨p, 14, none⟩ = some v14 := hr 14 v14 rfl
  have e15 : W9.cell? ⟨p, 15, none⟩ = some v15 := hr 15 v15 rfl
  have e16 : W9.cell? ⟨p, 16, none⟩ = some v16 := hr 16 v16 rfl
  refine bodyPost_ret (v := .tuple #[.agg #[v0, v1, v2, v3, v4, v5, v6, v7, v8, v9, v10, v11, v12, v13, v14, v15, v16], .bool true]) ?_ rfl hR
  simp [results, Tryz.results10, go_sem, h2, h3, e0, e1, e2, e3, e4, e5, e6, e7, e8, e9, e10, e11, e12, e13, e14, e15, e16]
end Go.Proofs.YtpbdgbejcdncgaaGreatDoor.Wire
end

section
/- THE WALK OF wire.ReadMsg at subscriptions. -/
namespace Go.Proofs.YtpbdgbejcdncgaaGreatDoor.Wire
open Go.RowKit Flt Go.Proofs.YtpbdgbejcdncgaaGreatDoor.Val Go.Lib
attribute [local go_sem] run_store_flt
/-- how the read ended, and where its message lies -/
def SubEnd (W4 : World) (bm : Nat) (k : Int) (sf : List UInt8) (l : List C) (x : Option (List UInt8)) (w1 : World) : Prop :=
  x = some [] ∧ ∃ (c0 : Option Addr) (cp : Nat) (W : World), Below W4.heap.size W4 W ∧ RM (W4.heap.size + 1) bm W w1 ∧ BoxM w1 bm (msgS k sf c0 l.length cp) ∧ l.length ≤ cp ∧ Conds w1 c0 l ∧ (∀ a, c0 = some a → W4.heap.size < a.block) ∧ W4.heap.size + 1 < W.heap.size
set_option maxRecDepth 20000 in
set_option maxHeartbeats 4000000 in
theorem readmsg_sub (a0 : Option Addr) (cap : Nat) (c : UInt8) (t sf : List UInt8) (l : List C) (w : World) (hc : c = 1 ∨ c = 2) (hd : decFilter t = some ((sf, l), [])) (hr : fRight sf l = true)
    (hby : BytesAt w a0 (c :: t)) (hcap : (c :: t).length ≤ cap) (hcm : cap ≤ maxLen) (hn : a0 = none → cap = 0) (hlm : l.length ≤ 1000000) (hsf : sf.length ≤ 140737488351232) (hok : ∀ x ∈ l, x.name.length ≤ 140737488351232 ∧ x.val.text.length ≤ 140737488351232) :
    Calls Tryz.prog 10 #[.slice a0 (c :: t).length cap] w fun e w' => (∃ (c0 : Option Addr) (cp : Nat), e = .returned (.tuple #[.agg (msgL (c.toNat : Int) 0 0 0 [] 0 [] none 0 0 [] 0 sf c0 l.length cp [] none 0 0 0 [] 0), .bool true]) ∧ l.length ≤ cp ∧ Conds w' c0 l) ∧ Below w.heap.size w w' := by
  have hmf : ∀ (fn : Fn) (first cap : Array Value) (w : World), (Instr.makeFunc fn first cap).run Tryz.prog w = .ok (.func fn first cap) w := fun _ _ _ _ => rfl
  obtain ⟨k, hk, k0, k12⟩ : ∃ k : Int, (c.toNat : Int) = k ∧ (k == 0) = false ∧ ((k == 1) = true ∨ ((k == 1) = false ∧ (k == 2) = true)) := by
    rcases hc with rfl | rfl
    · exact ⟨1, rfl, rfl, .inl rfl⟩
    · exact ⟨2, rfl, rfl, .inr ⟨rfl, rfl⟩⟩
  have HBY := Lib.hid hby; have HN := Lib.hid hn; have HOK := Lib.hid hok
  clear hby hn hok
  go_enter Tryz.func10, Tryz.ntmps10
  go_upto_region 3 with fail
  have hp0 := boxm_new w msgZ 35 (by decide)
  have hp1 := boxm_new (w.alloc (.cells msgZ 35)) msgZ 35 (by decide)
  have hp2 := boxm_new ((w.alloc (.cells msgZ 35)).alloc (.cells msgZ 35)) #[.bool false] 4 (by decide)
  have hp3 := boxm_new (((w.alloc (.cells msgZ 35)).alloc (.cells msgZ 35)).alloc (.cells #[.bool false] 4)) #[.bool true] 4 (by decide)
  have hb4 : Below w.heap.size w ((((w.alloc (.cells msgZ 35)).alloc (.cells msgZ 35)).alloc (.cells #[.bool false] 4)).alloc (.cells #[.bool true] 4)) := btrans (balloc2 _ _ _) (balloc2 _ _ _)
  have hq0 := hp0.below (btrans (balloc _ (.cells msgZ 35)) (balloc2 _ (.cells #[.bool false] 4) (.cells #[.bool true] 4)))
  have hq1 := hp1.below (balloc2 _ (.cells #[.bool false] 4) (.cells #[.bool true] 4))
  have hq2 := hp2.below (balloc _ (.cells #[.bool true] 4))
  simp only [sizeA] at hq1 hq2 hp3
  have hs4 : ((((w.alloc (.cells msgZ 35)).alloc (.cells msgZ 35)).alloc (.cells #[.bool false] 4)).alloc (.cells #[.bool true] 4)).heap.size = w.heap.size + 4 := by simp
  clear hp0 hp1 hp2
  generalize World.alloc (World.alloc (World.alloc (World.alloc w _) _) _) _ = W4 at *
  obtain ⟨bm, hbm⟩ : ∃ bm, bm = w.heap.size + 1 := ⟨_, rfl⟩
  obtain ⟨br, hbr⟩ : ∃ br, br = w.heap.size + 1 + 1 := ⟨_, rfl⟩
  obtain ⟨bk, hbk⟩ : ∃ bk, bk = w.heap.size + 1 + 1 + 1 := ⟨_, rfl⟩
  rw [← hbk] at hp3 ⊢
  rw [← hbr] at hq2 ⊢
  rw [← hbm] at hq1 ⊢
  have o1 : w.heap.size < bm := by omega
  have o2 : bm < br := by omega
  have o3 : br < bk := by omega
  have o4 : bk < W4.heap.size := by omega
  clear hbm hbr hbk hs4
  have hread : Calls Tryz.prog 29 #[.slice a0 (c :: t).length cap, .func (Fn.func 30) #[] #[.pointer (some ⟨bm, 0, none⟩), .pointer (some ⟨br, 0, none⟩), .pointer (some ⟨bk, 0, none⟩)]] W4 fun e w' => ReadP (SubEnd W4 bm k sf l) W4.heap.size e w' := read_msg (B := w.heap.size) a0 cap (c :: t) ⟨bm, 0, none⟩ ⟨br, 0, none⟩ ⟨bk, 0, none⟩ W4 (SubEnd W4 bm k sf l) (fun W hbW hrd => by
    have hlt := hrd.lt
    refine (clo_sub (W4.heap.size + 1) bm br bk c t sf [] l W hrd hc hd (hq1.below hbW) (by omega) (by omega)).mono ?_
    rintro e w' ⟨rfl, c0, cp, h1, h2, h3, h4, h5, h6, h7⟩
    have hblk := h7.block W4.heap.size (by omega) (by omega) (by omega)
    rw [hk] at h1
    exact .inl ⟨[], rfl, h6, World.cell?_of_block (w := W) (a := ⟨W4.heap.size, 0, none⟩) hblk, World.frozen?_of_block (w := W) (a := ⟨W4.heap.size, 0, none⟩) hblk, rfl, c0, cp, W, hbW, h7, h1, h2, h3, fun a e => by have := h4 a e; omega, hlt⟩)
    ((HBY.out).below hb4) hcap hcm HN.out (by omega) (bytes_low HBY.out)
  have HREAD := Lib.hid hread; have HQ0 := Lib.hid hq0; have HQ2 := Lib.hid hq2; have HQ3 := Lib.hid hp3; have HB4 := Lib.hid hb4
  clear hread hq0 hq1 hq2 hp3 hb4
  go_upto_region 4 with (first | (go_at_call 29; refine HREAD.out.mono ?_; rintro e w5 ⟨ok, x, w1, rfl, ⟨rfl, c0, cp, W, hbW, hrm, hbx, hcp, hcs, hbl, hWl⟩, hok1, hrk⟩; (have hokt : ok = true := hok1.2 rfl); subst hokt; have hw1 : W.heap.size ≤ w1.heap.size := hrm.size; have HP1 := Lib.hid (((HQ0.out.below hbW).rm hrm (by omega) (by omega)).rk hrk (by omega)); have HP2 := Lib.hid (((HQ2.out.below hbW).rm hrm (by omega) (by omega)).rk hrk (by omega)); have HP3 := Lib.hid (((HQ3.out.below hbW).rm hrm (by omega) (by omega)).rk hrk (by omega)); have HPM := Lib.hid (hbx.rk hrk (by omega)); have xk : w5.cell? ⟨bk, 0, none⟩ = some (.bool true) := HP3.out.c 0 (by decide); have xr : w5.cell? ⟨br, 0, none⟩ = some (.bool false) := HP2.out.c 0 (by decide); have m0 : w5.cell? ⟨bm, 0, none⟩ = some (.int .i64 k) := HPM.out.c 0 (by rw [msgS_size]; decide); have m1 : w5.cell? ⟨bm, 1, none⟩ = some (.int .i64 0) := HPM.out.c 1 (by rw [msgS_size]; decide); have m2 : w5.cell? ⟨bm, 2, none⟩ = some (.int .i64 0) := HPM.out.c 2 (by rw [msgS_size]; decide); have m3 : w5.cell? ⟨bm, 3, none⟩ = some (.int .i64 0) := HPM.out.c 3 (by rw [msgS_size]; decide); have m4 : w5.cell? ⟨bm, 4, none⟩ = some (.string ⟨#[]⟩) := HPM.out.c 4 (by rw [msgS_size]; decide); have m5 : w5.cell? ⟨bm, 5, none⟩ = some (.int .i64 0) := HPM.out.c 5 (by rw [msgS_size]; decide); have m6 : w5.cell? ⟨bm, 6, none⟩ = some (.string ⟨#[]⟩) := HPM.out.c 6 (by rw [msgS_size]; decide); have m7 : w5.cell? ⟨bm, 7, none⟩ = some (.slice none 0 0) := HPM.out.c 7 (by rw [msgS_size]; decide); have m8 : w5.cell? ⟨bm, 8, none⟩ = some (.string ⟨#[]⟩) := HPM.out.c 8 (by rw [msgS_size]; decide); have m9 : w5.cell? ⟨bm, 9, none⟩ = some (.int .i64 0) := HPM.out.c 9 (by rw [msgS_size]; decide); have m10 : w5.cell? ⟨bm, 10, none⟩ = some (.string ⟨sf.toArray⟩) := HPM.out.c 10 (by rw [msgS_size]; decide); have m11 : w5.cell? ⟨bm, 11, none⟩ = some (.slice c0 l.length cp) := HPM.out.c 11 (by rw [msgS_size]; decide); have m12 : w5.cell? ⟨bm, 12, none⟩ = some (.string ⟨#[]⟩) := HPM.out.c 12 (by rw [msgS_size]; decide); have m13 : w5.cell? ⟨bm, 13, none⟩ = some (.slice none 0 0) := HPM.out.c 13 (by rw [msgS_size]; decide); have m14 : w5.cell? ⟨bm, 14, none⟩ = some (.int .i64 0) := HPM.out.c 14 (by rw [msgS_size]; decide); have m15 : w5.cell? ⟨bm, 15, none⟩ = some (.string ⟨#[]⟩) := HPM.out.c 15 (by rw [msgS_size]; decide); have m16 : w5.cell? ⟨bm, 16, none⟩ = some (.int .i64 0) := HPM.out.c 16 (by rw [msgS_size]; decide)) | fail)
  as_aux_lemma =>
    have hcs5 : Conds w5 c0 l := conds_keep hcs (fun a e p hp hlt => hrk.cell hlt (by rw [hp]; have := hbl a e; omega))
    have hright := right_sub k false sf c0 cp l w5 k0 k12 hcs5 hlm hsf HOK.out
    rw [hr] at hright
    have HRIGHT := Lib.hid hright; have HCS5 := Lib.hid hcs5
    have hb5 : Below w.heap.size w w5 := HB4.out.trans ((hbW.mono (by omega)).trans ((show Below w.heap.size W w1 from ⟨hrm.os, hrm.tape, hrm.output, hrm.size, fun p hp => hrm.block p (by have := hbW.size; omega) (by omega) (by omega)⟩).trans (hrk.below (by omega) (by have := hbW.size; omega))))
    have HB5 := Lib.hid hb5
    have HBL := Lib.hid (show ∀ a, c0 = some a → W4.heap.size < a.block from hbl)
    clear hright hcs5 hb5 hbW hrm hbx hcs hbl hrk hWl hok1 hw1
    go_upto_region 6 with (first | (go_at_call 37; refine HRIGHT.out.mono ?_; rintro e w6 ⟨rfl, hb6⟩; have HM6 := Lib.hid (HPM.out.below hb6).range; have HT6 := Lib.hid (HP1.out.below hb6).there) | fail)
    clear m0 m1 m2 m3 m4 m5 m6 m7 m8 m9 m10 m11 m12 m13 m14 m15 m16 xk xr
    as_aux_lemma =>
    refine wp_region_lit ?_
    refine wpList_load_mid rfl 35 _ rfl bm 0 rfl (msgS k sf c0 l.length cp).toList _ HM6.out Tryz.underlying35 rfl msg_info ?_
    refine wpList_store_mid rfl 35 _ _ rfl w.heap.size 0 (msgS k sf c0 l.length cp) rfl rfl HT6.out msg_info (msgS_one _ _ _ _ _) ?_
    have hrg := World.rangeAt_setCells_same w6 w.heap.size 0 (msgS k sf c0 l.length cp).toList HT6.out
    have hb9 := setCells_below w.heap.size (msgS k sf c0 l.length cp).toList 0 w6
    have hfar := fun (q : Addr) (hq : q.block ≠ w.heap.size) => World.cell?_setCells_out w.heap.size (msgS k sf c0 l.length cp).toList 0 w6 q (fun h1 => absurd h1 hq)
    generalize World.setCells w6 _ _ _ = W9 at *
    have hc9 : Conds W9 c0 l := conds_keep (HCS5.out.below hb6) (fun a e p hp _ => hfar p (by rw [hp]; have := HBL.out a e; omega))
    have HRG := Lib.hid hrg; have HB9 := Lib.hid hb9; have HC9 := Lib.hid hc9
    clear hrg hb9 hc9 hfar
    go_wp2_with fail
    refine msg_fin rfl rfl HRG.out ?_
    exact ⟨⟨c0, cp, by (first | (subst hk; rfl) | (simp only [hk]; done) | (trace_state; fail)), hcp, HC9.out⟩, (btrans HB5.out hb6).trans HB9.out⟩
end Go.Proofs.YtpbdgbejcdncgaaGreatDoor.Wire
end

section
/- THE WALKS that read a log: of, Home, people, gone, Len. -/
namespace Go.Proofs.YtpbdgbejcdncgaaGreatDoor.Pol
open Go.RowKit Flt Go.Proofs.YtpbdgbejcdncgaaGreatDoor.Val
attribute [local go_sem] run_store_flt
end Go.Proofs.YtpbdgbejcdncgaaGreatDoor.Pol
end

section
/- THE WALK OF acl.Right. -/
namespace Go.Proofs.YtpbdgbejcdncgaaGreatDoor.Pol
open Go.RowKit Flt Go.Proofs.YtpbdgbejcdncgaaGreatDoor.Val
attribute [local go_sem] run_store_flt
/-- may it be a rule (cs: its conditions)? -/
def aclB (r : R) (cs : List C) : Bool :=
  if r.k.kind == 4 then decide (0 ≤ r.k.pl)
  else if decide (r.k.kind < 0) || decide (4 < r.k.kind) || decide (r.k.tenant < 0) || decide (4 ≤ r.k.tenant) || !Sc.nameB r.k.who then false
  else if r.k.kind == 0 then decide (0 ≤ r.br) && decide (r.br < 6)
  else if r.k.kind == 3 then Sc.nameB r.nm && Sc.rightB r.sc
  else fRight r.sc cs
set_option maxRecDepth 20000 in
set_option maxHeartbeats 4000000 in
theorem right_any (r : R) (cs : List C) (w : World) (hc : Conds w r.c0 cs) (hn : r.cn = cs.length) (hlm : cs.length ≤ 1000000)
    (hsc : r.sc.length ≤ 140737488351232) (hw : r.k.who.length ≤ 140737488351232) (hnm : r.nm.length ≤ 140737488351232) (hok : ∀ c ∈ cs, c.name.length ≤ 140737488351232 ∧ c.val.text.length ≤ 140737488351232) :
    Calls Tryz.prog 11 #[rv r] w fun e w' => e = .returned (.bool (aclB r cs)) ∧ Below w.heap.size w w' := by
  have hr : aclB r cs = (if r.k.kind == 4 then decide (0 ≤ r.k.pl)
    else if decide (r.k.kind < 0) || decide (4 < r.k.kind) || decide (r.k.tenant < 0) || decide (4 ≤ r.k.tenant) || !Sc.nameB r.k.who then false
    else if r.k.kind == 0 then decide (0 ≤ r.br) && decide (r.br < 6)
    else if r.k.kind == 3 then Sc.nameB r.nm && Sc.rightB r.sc
    else fRight r.sc cs) := rfl
  obtain ⟨⟨kd, tn, who, pl⟩, br, sc, c0, cn, cc, nm⟩ := r
  dsimp only at *
  subst hn
  have hfr (W : World) (h : Conds W c0 cs) := fright_any sc c0 cc cs W h hlm hsc hok
  have hnw (W : World) := Sc.name_any ⟨who.toArray⟩ W (by show who.length ≤ _; unfold maxLen; omega)
  have hnn (W : World) := Sc.name_any ⟨nm.toArray⟩ W (by show nm.length ≤ _; unfold maxLen; omega)
  have hss (W : World) := Sc.right_l sc W hsc
  have ew : (⟨who.toArray⟩ : ByteArray).data.toList = who := by simp
  have en : (⟨nm.toArray⟩ : ByteArray).data.toList = nm := by simp
  rw [ew] at hnw; rw [en] at hnn
  generalize Sc.nameB who = nw at *
  generalize Sc.nameB nm = nn at *
  generalize Sc.rightB sc = sr at *
  generalize fRight sc cs = fr at *
  generalize aclB _ cs = RES at *
  have HC := Lib.hid hc; have HR := Lib.hid hr; have HFR := Lib.hid hfr; have HNW := Lib.hid hnw; have HNN := Lib.hid hnn; have HSS := Lib.hid hss
  clear hc hr hfr hnw hnn hss ew en hok hlm
  cases k4 : (kd == 4)
  rotate_left
  · go_enter Tryz.func11, Tryz.ntmps11
    go_wp2_with fail
    go_ret
    exact ⟨ret_bool (by rw [HR.out, k4]; rfl), by repeat (first | assumption | (with_reducible exact Below.refl _ _) | exact balloc _ _ | exact balloc2 _ _ _ | refine btrans ?_ (by assumption) | refine btrans ?_ (balloc _ _))⟩
  by_cases a0 : kd < 0
  · go_enter Tryz.func11, Tryz.ntmps11
    go_wp2_with (first | (go_at_call 12; ((with_reducible refine (HNW.out _).mono ?_) ; rintro e w1 ⟨rfl, rfl⟩)) | (go_at_call 12; ((with_reducible refine (HNN.out _).mono ?_) ; rintro e w1 ⟨rfl, rfl⟩)) | (go_at_call 13; refine (HSS.out _).mono ?_; rintro e w2 ⟨rfl, ⟨nd, rfl⟩⟩) | (go_at_call 6; refine (HFR.out _ (HC.out.below (by repeat (first | assumption | (with_reducible exact Below.refl _ _) | exact balloc _ _ | exact balloc2 _ _ _ | refine btrans ?_ (by assumption) | refine btrans ?_ (balloc _ _))))).mono ?_; rintro e w2 ⟨rfl, hb2⟩) | fail)
    all_goals first | omega | (go_ret; refine ⟨ret_bool (by rw [HR.out, k4, decide_eq_true a0]; rfl), ?_⟩; first | exact bdrewN (balloc _ _) nd | exact (by repeat (first | assumption | (with_reducible exact Below.refl _ _) | exact balloc _ _ | exact balloc2 _ _ _ | refine btrans ?_ (by assumption) | refine btrans ?_ (balloc _ _))))
  by_cases a1 : 4 < kd
  · go_enter Tryz.func11, Tryz.ntmps11
    go_wp2_with (first | (go_at_call 12; ((with_reducible refine (HNW.out _).mono ?_) ; rintro e w1 ⟨rfl, rfl⟩)) | (go_at_call 12; ((with_reducible refine (HNN.out _).mono ?_) ; rintro e w1 ⟨rfl, rfl⟩)) | (go_at_call 13; refine (HSS.out _).mono ?_; rintro e w2 ⟨rfl, ⟨nd, rfl⟩⟩) | (go_at_call 6; refine (HFR.out _ (HC.out.below (by repeat (first | assumption | (with_reducible exact Below.refl _ _) | exact balloc _ _ | exact balloc2 _ _ _ | refine btrans ?_ (by assumption) | refine btrans ?_ (balloc _ _))))).mono ?_; rintro e w2 ⟨rfl, hb2⟩) | fail)
    all_goals first | omega | (go_ret; refine ⟨ret_bool (by rw [HR.out, k4, decide_eq_true a1]; simp), ?_⟩; first | exact bdrewN (balloc _ _) nd | exact (by repeat (first | assumption | (with_reducible exact Below.refl _ _) | exact balloc _ _ | exact balloc2 _ _ _ | refine btrans ?_ (by assumption) | refine btrans ?_ (balloc _ _))))
  by_cases b0 : tn < 0
  · go_enter Tryz.func11, Tryz.ntmps11
    go_wp2_with (first | (go_at_call 12; ((with_reducible refine (HNW.out _).mono ?_) ; rintro e w1 ⟨rfl, rfl⟩)) | (go_at_call 12; ((with_reducible refine (HNN.out _).mono ?_) ; rintro e w1 ⟨rfl, rfl⟩)) | (go_at_call 13; refine (HSS.out _).mono ?_; rintro e w2 ⟨rfl, ⟨nd, rfl⟩⟩) | (go_at_call 6; refine (HFR.out _ (HC.out.below (by repeat (first | assumption | (with_reducible exact Below.refl _ _) | exact balloc _ _ | exact balloc2 _ _ _ | refine btrans ?_ (by assumption) | refine btrans ?_ (balloc _ _))))).mono ?_; rintro e w2 ⟨rfl, hb2⟩) | fail)
    all_goals first | omega | (go_ret; refine ⟨ret_bool (by rw [HR.out, k4, decide_eq_true b0]; simp), ?_⟩; first | exact bdrewN (balloc _ _) nd | exact (by repeat (first | assumption | (with_reducible exact Below.refl _ _) | exact balloc _ _ | exact balloc2 _ _ _ | refine btrans ?_ (by assumption) | refine btrans ?_ (balloc _ _))))
  by_cases b1 : 4 ≤ tn
  · go_enter Tryz.func11, Tryz.ntmps11
    go_wp2_with (first | (go_at_call 12; ((with_reducible refine (HNW.out _).mono ?_) ; rintro e w1 ⟨rfl, rfl⟩)) | (go_at_call 12; ((with_reducible refine (HNN.out _).mono ?_) ; rintro e w1 ⟨rfl, rfl⟩)) | (go_at_call 13; refine (HSS.out _).mono ?_; rintro e w2 ⟨rfl, ⟨nd, rfl⟩⟩) | (go_at_call 6; refine (HFR.out _ (HC.out.below (by repeat (first | assumption | (with_reducible exact Below.refl _ _) | exact balloc _ _ | exact balloc2 _ _ _ | refine btrans ?_ (by assumption) | refine btrans ?_ (balloc _ _))))).mono ?_; rintro e w2 ⟨rfl, hb2⟩) | fail)
    all_goals first | omega | (go_ret; refine ⟨ret_bool (by rw [HR.out, k4, decide_eq_true b1]; simp), ?_⟩; first | exact bdrewN (balloc _ _) nd | exact (by repeat (first | assumption | (with_reducible exact Below.refl _ _) | exact balloc _ _ | exact balloc2 _ _ _ | refine btrans ?_ (by assumption) | refine btrans ?_ (balloc _ _))))
  have d0 : decide (kd < 0) = false := decide_eq_false a0
  have d1 : decide (4 < kd) = false := decide_eq_false a1
  have d2 : decide (tn < 0) = false := decide_eq_false b0
  have d3 : decide (4 ≤ tn) = false := decide_eq_false b1
  have HR2 := Lib.hid (show RES = (if !nw then false else if kd == 0 then decide (0 ≤ br) && decide (br < 6) else if kd == 3 then nn && sr else fr) from by rw [HR.out, k4, d0, d1, d2, d3]; rfl)
  clear HR
  cases nw
  · go_enter Tryz.func11, Tryz.ntmps11
    go_wp2_with (first | (go_at_call 12; ((with_reducible refine (HNW.out _).mono ?_) ; rintro e w1 ⟨rfl, rfl⟩)) | (go_at_call 12; ((with_reducible refine (HNN.out _).mono ?_) ; rintro e w1 ⟨rfl, rfl⟩)) | (go_at_call 13; refine (HSS.out _).mono ?_; rintro e w2 ⟨rfl, ⟨nd, rfl⟩⟩) | (go_at_call 6; refine (HFR.out _ (HC.out.below (by repeat (first | assumption | (with_reducible exact Below.refl _ _) | exact balloc _ _ | exact balloc2 _ _ _ | refine btrans ?_ (by assumption) | refine btrans ?_ (balloc _ _))))).mono ?_; rintro e w2 ⟨rfl, hb2⟩) | fail)
    all_goals first | omega | (go_ret; refine ⟨ret_bool (by rw [HR2.out]; rfl), ?_⟩; first | exact bdrewN (balloc _ _) nd | exact (by repeat (first | assumption | (with_reducible exact Below.refl _ _) | exact balloc _ _ | exact balloc2 _ _ _ | refine btrans ?_ (by assumption) | refine btrans ?_ (balloc _ _))))
  cases k0 : (kd == 0)
  rotate_left
  · by_cases r0 : 0 ≤ br
    · go_enter Tryz.func11, Tryz.ntmps11
      go_wp2_with (first | (go_at_call 12; ((with_reducible refine (HNW.out _).mono ?_) ; rintro e w1 ⟨rfl, rfl⟩)) | (go_at_call 12; ((with_reducible refine (HNN.out _).mono ?_) ; rintro e w1 ⟨rfl, rfl⟩)) | (go_at_call 13; refine (HSS.out _).mono ?_; rintro e w2 ⟨rfl, ⟨nd, rfl⟩⟩) | (go_at_call 6; refine (HFR.out _ (HC.out.below (by repeat (first | assumption | (with_reducible exact Below.refl _ _) | exact balloc _ _ | exact balloc2 _ _ _ | refine btrans ?_ (by assumption) | refine btrans ?_ (balloc _ _))))).mono ?_; rintro e w2 ⟨rfl, hb2⟩) | fail)
      all_goals first | omega | (go_ret; refine ⟨ret_bool (by rw [HR2.out, k0, decide_eq_true r0]; rfl), ?_⟩; first | exact bdrewN (balloc _ _) nd | exact (by repeat (first | assumption | (with_reducible exact Below.refl _ _) | exact balloc _ _ | exact balloc2 _ _ _ | refine btrans ?_ (by assumption) | refine btrans ?_ (balloc _ _))))
    · go_enter Tryz.func11, Tryz.ntmps11
      go_wp2_with (first | (go_at_call 12; ((with_reducible refine (HNW.out _).mono ?_) ; rintro e w1 ⟨rfl, rfl⟩)) | (go_at_call 12; ((with_reducible refine (HNN.out _).mono ?_) ; rintro e w1 ⟨rfl, rfl⟩)) | (go_at_call 13; refine (HSS.out _).mono ?_; rintro e w2 ⟨rfl, ⟨nd, rfl⟩⟩) | (go_at_call 6; refine (HFR.out _ (HC.out.below (by repeat (first | assumption | (with_reducible exact Below.refl _ _) | exact balloc _ _ | exact balloc2 _ _ _ | refine btrans ?_ (by assumption) | refine btrans ?_ (balloc _ _))))).mono ?_; rintro e w2 ⟨rfl, hb2⟩) | fail)
      all_goals first | omega | (go_ret; refine ⟨ret_bool (by rw [HR2.out, k0, show decide (0 ≤ br) = false from decide_eq_false (by omega)]; rfl), ?_⟩; first | exact bdrewN (balloc _ _) nd | exact (by repeat (first | assumption | (with_reducible exact Below.refl _ _) | exact balloc _ _ | exact balloc2 _ _ _ | refine btrans ?_ (by assumption) | refine btrans ?_ (balloc _ _))))
  cases k3 : (kd == 3)
  · go_enter Tryz.func11, Tryz.ntmps11
    go_wp2_with (first | (go_at_call 12; ((with_reducible refine (HNW.out _).mono ?_) ; rintro e w1 ⟨rfl, rfl⟩)) | (go_at_call 12; ((with_reducible refine (HNN.out _).mono ?_) ; rintro e w1 ⟨rfl, rfl⟩)) | (go_at_call 13; refine (HSS.out _).mono ?_; rintro e w2 ⟨rfl, ⟨nd, rfl⟩⟩) | (go_at_call 6; refine (HFR.out _ (HC.out.below (by repeat (first | assumption | (with_reducible exact Below.refl _ _) | exact balloc _ _ | exact balloc2 _ _ _ | refine btrans ?_ (by assumption) | refine btrans ?_ (balloc _ _))))).mono ?_; rintro e w2 ⟨rfl, hb2⟩) | fail)
    all_goals first | omega | (go_ret; refine ⟨ret_bool (by rw [HR2.out, k0, k3]; rfl), ?_⟩; first | exact bdrewN (balloc _ _) nd | exact (by repeat (first | assumption | (with_reducible exact Below.refl _ _) | exact balloc _ _ | exact balloc2 _ _ _ | refine btrans ?_ (by assumption) | refine btrans ?_ (balloc _ _))))
  cases nn
  · go_enter Tryz.func11, Tryz.ntmps11
    go_wp2_with (first | (go_at_call 12; ((with_reducible refine (HNW.out _).mono ?_) ; rintro e w1 ⟨rfl, rfl⟩)) | (go_at_call 12; ((with_reducible refine (HNN.out _).mono ?_) ; rintro e w1 ⟨rfl, rfl⟩)) | (go_at_call 13; refine (HSS.out _).mono ?_; rintro e w2 ⟨rfl, ⟨nd, rfl⟩⟩) | (go_at_call 6; refine (HFR.out _ (HC.out.below (by repeat (first | assumption | (with_reducible exact Below.refl _ _) | exact balloc _ _ | exact balloc2 _ _ _ | refine btrans ?_ (by assumption) | refine btrans ?_ (balloc _ _))))).mono ?_; rintro e w2 ⟨rfl, hb2⟩) | fail)
    all_goals first | omega | (go_ret; refine ⟨ret_bool (by rw [HR2.out, k0, k3]; rfl), ?_⟩; first | exact bdrewN (balloc _ _) nd | exact (by repeat (first | assumption | (with_reducible exact Below.refl _ _) | exact balloc _ _ | exact balloc2 _ _ _ | refine btrans ?_ (by assumption) | refine btrans ?_ (balloc _ _))))
  · go_enter Tryz.func11, Tryz.ntmps11
    go_wp2_with (first | (go_at_call 12; ((with_reducible refine (HNW.out _).mono ?_) ; rintro e w1 ⟨rfl, rfl⟩)) | (go_at_call 12; ((with_reducible refine (HNN.out _).mono ?_) ; rintro e w1 ⟨rfl, rfl⟩)) | (go_at_call 13; refine (HSS.out _).mono ?_; rintro e w2 ⟨rfl, ⟨nd, rfl⟩⟩) | (go_at_call 6; refine (HFR.out _ (HC.out.below (by repeat (first | assumption | (with_reducible exact Below.refl _ _) | exact balloc _ _ | exact balloc2 _ _ _ | refine btrans ?_ (by assumption) | refine btrans ?_ (balloc _ _))))).mono ?_; rintro e w2 ⟨rfl, hb2⟩) | fail)
    all_goals first | omega | (go_ret; refine ⟨ret_bool (by rw [HR2.out, k0, k3]; rfl), ?_⟩; first | exact bdrewN (balloc _ _) nd | exact (by repeat (first | assumption | (with_reducible exact Below.refl _ _) | exact balloc _ _ | exact balloc2 _ _ _ | refine btrans ?_ (by assumption) | refine btrans ?_ (balloc _ _))))
end Go.Proofs.YtpbdgbejcdncgaaGreatDoor.Pol
end

section
/- THE WALK OF the fit of chapter 16's laws. -/
namespace Go.Proofs.YtpbdgbejcdncgaaGreatDoor.Wire
open Go.RowKit Flt Go.Proofs.YtpbdgbejcdncgaaGreatDoor.Val Go.Lib
attribute [local go_sem] run_store_flt
theorem conds_no (w : World) (a : Option Addr) : Conds w a [] := fun i hi => absurd hi (by simp)
theorem read_fit (w : World) (b : Nat) (T : TypeId) (hb : b = w.heap.size) :
    Calls Tryz.prog 10 #[.slice (some ⟨b, 0, none⟩) 3 3] (w.alloc (.cells #[.int .u8 1, .int .u8 0, .int .u8 0] T)) fun e w' => ∃ (c0 : Option Addr) (cp : Nat), e = .returned (.tuple #[.agg (msgL 1 0 0 0 [] 0 [] none 0 0 [] 0 [] c0 0 cp [] none 0 0 0 [] 0), .bool true]) ∧ Below w.heap.size w w' := by
  subst hb
  have hby : BytesAt (w.alloc (.cells #[.int .u8 1, .int .u8 0, .int .u8 0] T)) (some ⟨w.heap.size, 0, none⟩) [1, 0, 0] := by
    intro i hi
    have c : ∀ o, (w.alloc (.cells #[.int .u8 1, .int .u8 0, .int .u8 0] T)).cell? ⟨w.heap.size, o, none⟩ = #[Value.int .u8 1, .int .u8 0, .int .u8 0][o]? := fun o => World.cell?_alloc_at _ _ _ _ rfl
    refine ⟨_, rfl, ?_⟩
    rcases i with _ | _ | _ | i
    · exact c 0
    · exact c 1
    · exact c 2
    · simp only [List.length_cons, List.length_nil] at hi; omega
  have h := readmsg_sub (some ⟨w.heap.size, 0, none⟩) 3 1 [0, 0] [] [] _ (.inl rfl) (by rfl) (by rfl) hby (by decide) (by decide) (fun h => by cases h) (by decide) (by decide) (by simp)
  refine h.mono ?_
  rintro e w' ⟨⟨c0, cp, rfl, _, _⟩, hb⟩
  exact ⟨c0, cp, rfl, btrans (balloc _ _) hb⟩
theorem msg_fit (c0 : Option Addr) (cp : Nat) (w : World) :
    Calls Tryz.prog 9 #[.agg (msgL 1 0 0 0 [] 0 [] none 0 0 [] 0 [] c0 0 cp [] none 0 0 0 [] 0)] w fun e w' => ∃ a c, e = .returned (.slice a 3 c) ∧ Below w.heap.size w w' := by
  refine (msg_sub ⟨1, 0, ⟨⟨0, 0, [], 0⟩, 0, [], none, 0, 0, []⟩, [], c0, 0, cp, [], none, 0, 0, 0, [], 0⟩ [] w (by show (1 : Int) ≠ 0; decide) (by show (1 : Int) ≠ 3; decide) (conds_no _ _) rfl (by simp) (by show 1 + (encFilter [] []).length ≤ 1000000; decide) (by decide)).mono ?_
  rintro e w' ⟨⟨a, c, rfl, _⟩, hb⟩
  exact ⟨a, c, rfl, hb⟩
theorem right_fit (w : World) : Calls Tryz.prog 11 #[Pol.rv ⟨⟨4, 0, [], 0⟩, 0, [], none, 0, 0, []⟩] w fun e w' => e = .returned (.bool true) ∧ Below w.heap.size w w' :=
  Pol.right_any ⟨⟨4, 0, [], 0⟩, 0, [], none, 0, 0, []⟩ [] w (conds_no _ _) rfl (by decide) (by decide) (by decide) (by decide) (by simp)
theorem event_fit (w : World) : Calls Tryz.prog 14 #[ev [] none 0 0] w fun e w' => ∃ a c, e = .returned (.slice a 2 c) ∧ Below w.heap.size w w' := by
  refine (eventb_any [] none 0 [] w (fun i hi => absurd hi (by simp)) (by simp) (by decide) (by decide)).mono ?_
  rintro e w' ⟨⟨a, c, rfl, _⟩, hb⟩
  exact ⟨a, c, rfl, hb⟩
set_option maxRecDepth 20000 in
set_option maxHeartbeats 4000000 in
theorem fit16_any (w : World) : Calls Tryz.prog 4 #[] w fun e w' => e = .returned (.bool true) ∧ Below w.heap.size w w' := by
  have n1 : Sc.nameB [97] = true := by decide
  have n2 : Sc.rightB [] = true := by decide
  go_enter Tryz.func4, Tryz.ntmps4
  go_wp2_with fail
  refine (read_fit _ _ _ (by simp)).mono ?_
  rintro e w1 ⟨c0, cp, rfl, hb1⟩
  go_wp2_with (first | (go_at_call 9; refine (msg_fit c0 cp _).mono ?_; rintro e w2 ⟨a2, c2, rfl, hb2⟩) | (go_at_call 11; refine (right_fit _).mono ?_; rintro e w3 ⟨rfl, hb3⟩) | (go_at_call 12; refine (Sc.name_l [97] _ (by decide)).mono ?_; rintro e w4 ⟨rfl, rfl⟩) | (go_at_call 13; refine (Sc.right_l [] _ (by decide)).mono ?_; rintro e w5 ⟨rfl, ⟨nd, rfl⟩⟩) | (go_at_call 14; refine (event_fit _).mono ?_; rintro e w6 ⟨a6, c6, rfl, hb6⟩))
  go_ret
  exact ⟨rfl, btrans (bdrewN (btrans (btrans hb1 (btrans (balloc _ _) hb2)) hb3) _) hb6⟩
end Go.Proofs.YtpbdgbejcdncgaaGreatDoor.Wire
end

section
/- THE WALKS OF Light, few and Event of chapter 07's laws. -/
namespace Go.Proofs.YtpbdgbejcdncgaaGreatDoor.Val
open Go.RowKit Flt
attribute [local go_sem] run_store_flt
set_option maxHeartbeats 2000000 in
theorem light07_any (sf : List UInt8) (a0 : Option Addr) (cap : Nat) (l : List C) (w : World) (hl : Conds w a0 l) (hlm : l.length ≤ maxLen) :
    Calls Tryz.prog 5 #[ev sf a0 l.length cap] w fun e w' => (∃ b : Bool, e = .returned (.bool b) ∧ (b = true → l.length ≤ 20)) ∧ Below w.heap.size w w' := by
  have HL := Lib.hid hl
  unfold maxLen at hlm
  clear hl
  go_enter Tryz.func5, Tryz.ntmps5
  go_wp2_with fail
  have hx1 := box2_new w sf a0 l.length cap 24
  have hbw := balloc w (.cells #[.string ⟨sf.toArray⟩, .slice a0 l.length cap] 24)
  have HX1 := Lib.hid hx1; have HBW := Lib.hid hbw
  clear hx1 hbw
  generalize w.alloc _ = W0 at *
  go_loopw [3, 12] (fun vn vi wr => ∃ (k : Nat) (z : Int), k ≤ l.length ∧ vn = .int .i64 z ∧ vi = .int .i64 k ∧ Below W0.heap.size W0 wr) (fun _ vi _ => l.length - (intOf vi).toNat)
  case atStart => exact ⟨0, _, Nat.zero_le _, rfl, rfl, Below.refl _ _⟩
  case round =>
    obtain ⟨k, z, hk, rfl, rfl, hbr⟩ := hrel
    have hbz := btrans HBW.out hbr
    have hy1 := HX1.out.below hbr
    have hs1 := hy1.lt
    obtain ⟨f0, f1⟩ := hy1
    have HBZ := Lib.hid hbz; have HBR := Lib.hid hbr
    clear hbz hbr
    by_cases hlt : k < l.length
    · have i1 : (k : Int) < (l.length : Int) := by omega
      have i0 : (0 : Int) ≤ (k : Int) := by omega
      obtain ⟨a, rfl, v0, v1, v2, v3, v4, v5, v6⟩ := (HL.out.below HBZ.out) k hlt
      go_wp2_with fail
      exact ⟨⟨k + 1, _, by omega, rfl, by go_num, btrans HBR.out (balloc _ _)⟩, by simp [intOf]; go_num⟩
    · obtain rfl : k = l.length := by omega
      cases hd : decide (z ≤ 2000)
      · go_wp2_with fail
        go_ret
        exact ⟨⟨_, rfl, fun h => by cases h⟩, HBZ.out⟩
      · go_wp2_with fail
        go_ret
        exact ⟨⟨_, rfl, fun h => by simp at h; omega⟩, HBZ.out⟩
end Go.Proofs.YtpbdgbejcdncgaaGreatDoor.Val
end

section
/- BYTES AS A TEXT: the conversion. -/
namespace Go.Proofs.YtpbdgbejcdncgaaGreatDoor.Wire
open Go.RowKit Flt Go.Proofs.YtpbdgbejcdncgaaGreatDoor.Val Go.Lib
/-- bytes as a text -/
theorem conv_by {w : World} {a0 : Option Addr} {cap : Nat} {s : List UInt8} (h : BytesAt w a0 s) (hn : a0 = none → s = [] ∧ cap = 0) :
    (convert 37 9 (.slice a0 s.length cap)).run Tryz.prog w = .ok (.string ⟨s.toArray⟩) w := by
  cases a0 with
  | none =>
    obtain ⟨rfl, rfl⟩ := hn rfl
    exact (show ∀ W, (convert 37 9 (.slice none 0 0)).run Tryz.prog W = .ok (.string ⟨#[]⟩) W from fun W => by kernel_rfl) w
  | some a =>
    exact run_convert_bytes_back w 37 9 5 a cap s Tryz.underlying37 Tryz.underlying5 Tryz.underlying9 (fun j hj => by
      obtain ⟨a2, e, h2⟩ := h j hj
      injection e with e
      subst e
      exact h2)
theorem conv_lays {w : World} {a0 : Option Addr} {cap : Nat} {s : List UInt8} (h : BytesAt w a0 s) (hs : s ≠ []) :
    (convert 37 9 (.slice a0 s.length cap)).run Tryz.prog w = .ok (.string ⟨s.toArray⟩) w :=
  conv_by h (fun e => by
    obtain ⟨a, e2, _⟩ := h 0 (List.length_pos_iff.2 hs)
    rw [e] at e2; cases e2)
end Go.Proofs.YtpbdgbejcdncgaaGreatDoor.Wire
end
