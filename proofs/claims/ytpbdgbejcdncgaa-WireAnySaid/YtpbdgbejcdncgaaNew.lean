/- THE WALK OF event.New. -/
import Derived.Test.YtpbdgbejcdncgaaIns
import Derived.Test.YtpbdgbejcdncgaaNewFn
import Derived.Laws.OwnMore
namespace Go.Proofs.Ytpbdgbejcdncgaa.Val
open Go.RowKit Flt
theorem grownBy_trans {a b c : World} {row : Option Nat} (h : a.grownBy b row) (k : b.grownBy c row) : a.grownBy c row :=
  ⟨k.os.trans h.os, k.tape.trans h.tape, k.output.trans h.output, Nat.le_trans h.size k.size, fun i hi hne => (k.block i (Nat.lt_of_lt_of_le hi h.size) hne).trans (h.block i hi hne)⟩
theorem flatA_set (a : A) : ∀ (l : List A) (R : Nat), R < l.length →
    ((((((flatA l).set (R * 6) (.string ⟨a.name.toArray⟩)).set (R * 6 + 1) (.int .i64 a.val.kind)).set (R * 6 + 2) (.int .i64 a.val.int)).set (R * 6 + 3) (.float .f64 a.val.num)).set (R * 6 + 4) (.string ⟨a.val.text.toArray⟩)).set (R * 6 + 5) (.bool a.val.yes) = flatA (l.set R a)
  | x :: l, 0, _ => by simp [flatA, cells6]
  | x :: l, R + 1, h => by
    have ih := flatA_set a l R (by simpa using h)
    have e : flatA (x :: l) = cells6 x ++ flatA l := by simp [flatA]
    have e2 : flatA ((x :: l).set (R + 1) a) = cells6 x ++ flatA (l.set R a) := by simp [flatA]
    rw [e, e2, ← ih]
    have hs : ∀ (ys : List Value) (j : Nat) (v : Value), (cells6 x ++ ys).set ((R + 1) * 6 + j) v = cells6 x ++ ys.set (R * 6 + j) v := fun ys j v => by
      rw [List.set_append_right _ _ (by simp [cells6]; omega)]
      congr 2
      simp [cells6]; omega
    have hs0 : ∀ (ys : List Value) (v : Value), (cells6 x ++ ys).set ((R + 1) * 6) v = cells6 x ++ ys.set (R * 6) v := fun ys v => hs ys 0 v
    rw [hs0, hs, hs, hs, hs, hs]
theorem set_row6 {w : World} {base g cap R : Nat} {l : List A} (a : A) (h : w.ownsRow base 76 6 (.slice (some ⟨g, 0, none⟩) l.length cap) l.length (flatA l)) (hR : R < l.length) :
    ((((((w.setCell ⟨g, R * 6, none⟩ (.string ⟨a.name.toArray⟩)).setCell ⟨g, R * 6 + 1, none⟩ (.int .i64 a.val.kind)).setCell ⟨g, R * 6 + 2, none⟩ (.int .i64 a.val.int)).setCell ⟨g, R * 6 + 3, none⟩ (.float .f64 a.val.num)).setCell ⟨g, R * 6 + 4, none⟩ (.string ⟨a.val.text.toArray⟩)).setCell ⟨g, R * 6 + 5, none⟩ (.bool a.val.yes)).ownsRow base 76 6 (.slice (some ⟨g, 0, none⟩) (l.set R a).length cap) (l.set R a).length (flatA (l.set R a)) ∧
    w.grownBy ((((((w.setCell ⟨g, R * 6, none⟩ (.string ⟨a.name.toArray⟩)).setCell ⟨g, R * 6 + 1, none⟩ (.int .i64 a.val.kind)).setCell ⟨g, R * 6 + 2, none⟩ (.int .i64 a.val.int)).setCell ⟨g, R * 6 + 3, none⟩ (.float .f64 a.val.num)).setCell ⟨g, R * 6 + 4, none⟩ (.string ⟨a.val.text.toArray⟩)).setCell ⟨g, R * 6 + 5, none⟩ (.bool a.val.yes)) (some g) := by
  obtain ⟨h1, g1⟩ := h.stored (R * 6) (.string ⟨a.name.toArray⟩)
  obtain ⟨h2, g2⟩ := h1.stored (R * 6 + 1) (.int .i64 a.val.kind)
  obtain ⟨h3, g3⟩ := h2.stored (R * 6 + 2) (.int .i64 a.val.int)
  obtain ⟨h4, g4⟩ := h3.stored (R * 6 + 3) (.float .f64 a.val.num)
  obtain ⟨h5, g5⟩ := h4.stored (R * 6 + 4) (.string ⟨a.val.text.toArray⟩)
  obtain ⟨h6, g6⟩ := h5.stored (R * 6 + 5) (.bool a.val.yes)
  rw [flatA_set a l R hR] at h6
  rw [List.length_set]
  exact ⟨h6, grownBy_trans (grownBy_trans (grownBy_trans (grownBy_trans (grownBy_trans g1 g2) g3) g4) g5) g6⟩
/-- five cells behind the first one of a block -/
theorem set5_from1 (w : World) (b : Nat) (v1 v2 v3 v4 v5 : Value) (h : ∀ j, j < 5 → (w.cell? ⟨b, 1 + j, none⟩).isSome = true) :
    (((((w.setCell ⟨b, 1, none⟩ v1).setCell ⟨b, 2, none⟩ v2).setCell ⟨b, 3, none⟩ v3).setCell ⟨b, 4, none⟩ v4).setCell ⟨b, 5, none⟩ v5).cell? ⟨b, 0, none⟩ = w.cell? ⟨b, 0, none⟩ ∧
    (((((w.setCell ⟨b, 1, none⟩ v1).setCell ⟨b, 2, none⟩ v2).setCell ⟨b, 3, none⟩ v3).setCell ⟨b, 4, none⟩ v4).setCell ⟨b, 5, none⟩ v5).cell? ⟨b, 1, none⟩ = some v1 ∧
    (((((w.setCell ⟨b, 1, none⟩ v1).setCell ⟨b, 2, none⟩ v2).setCell ⟨b, 3, none⟩ v3).setCell ⟨b, 4, none⟩ v4).setCell ⟨b, 5, none⟩ v5).cell? ⟨b, 2, none⟩ = some v2 ∧
    (((((w.setCell ⟨b, 1, none⟩ v1).setCell ⟨b, 2, none⟩ v2).setCell ⟨b, 3, none⟩ v3).setCell ⟨b, 4, none⟩ v4).setCell ⟨b, 5, none⟩ v5).cell? ⟨b, 3, none⟩ = some v3 ∧
    (((((w.setCell ⟨b, 1, none⟩ v1).setCell ⟨b, 2, none⟩ v2).setCell ⟨b, 3, none⟩ v3).setCell ⟨b, 4, none⟩ v4).setCell ⟨b, 5, none⟩ v5).cell? ⟨b, 4, none⟩ = some v4 ∧
    (((((w.setCell ⟨b, 1, none⟩ v1).setCell ⟨b, 2, none⟩ v2).setCell ⟨b, 3, none⟩ v3).setCell ⟨b, 4, none⟩ v4).setCell ⟨b, 5, none⟩ v5).cell? ⟨b, 5, none⟩ = some v5 ∧
    Below b w (((((w.setCell ⟨b, 1, none⟩ v1).setCell ⟨b, 2, none⟩ v2).setCell ⟨b, 3, none⟩ v3).setCell ⟨b, 4, none⟩ v4).setCell ⟨b, 5, none⟩ v5) ∧
    (((((w.setCell ⟨b, 1, none⟩ v1).setCell ⟨b, 2, none⟩ v2).setCell ⟨b, 3, none⟩ v3).setCell ⟨b, 4, none⟩ v4).setCell ⟨b, 5, none⟩ v5).heap.size = w.heap.size := by
  have e := World.cell?_setCells_in b [v1, v2, v3, v4, v5] 1 w (fun j hj => h j hj)
  have e0 := World.cell?_setCells_out b [v1, v2, v3, v4, v5] 1 w ⟨b, 0, none⟩ (fun _ _ => Or.inl (by simp))
  exact ⟨e0, e 0 (by simp), e 1 (by simp), e 2 (by simp), e 3 (by simp), e 4 (by simp),
    (((((Below.refl b w).setCell (Nat.le_refl _) _).setCell (Nat.le_refl _) _).setCell (Nat.le_refl _) _).setCell (Nat.le_refl _) _).setCell (Nat.le_refl _) _, by simp [World.setCell]⟩
/-- what the walk knows of the blocks of the call between two rounds -/
def NewAt (N : Nat) (sc : List UInt8) (v : Value) (l : List A) (W : World) : Prop :=
  W.cell? ⟨N + 1, 0, none⟩ = some (.string ⟨sc.toArray⟩) ∧ W.cell? ⟨N + 1, 1, none⟩ = some v ∧ W.frozen? ⟨N + 1, 1, none⟩ = false ∧
    (W.cell? ⟨N, 0, none⟩).isSome = true ∧ (W.cell? ⟨N, 1, none⟩).isSome = true ∧ W.frozen? ⟨N, 0, none⟩ = false ∧ W.frozen? ⟨N, 1, none⟩ = false ∧
    W.ownsRow (N + 2) 76 6 v l.length (flatA l) ∧ N + 2 ≤ W.heap.size
theorem NewAt.below_at {N B : Nat} {sc : List UInt8} {v : Value} {l : List A} {W W2 : World} (h : NewAt N sc v l W) (hb : Below B W W2) (hN : N + 2 ≤ B) (hv : ∀ k, v.ownBlock = some k → k < B) : NewAt N sc v l W2 := by
  obtain ⟨o0, o1, ofz, r0, r1, rf0, rf1, hown, hsz⟩ := h
  obtain ⟨_, _, _, hs, hk⟩ := hb
  have g1 := hk (N + 1) (by omega)
  have g0 := hk N (by omega)
  refine ⟨(World.cell?_of_block (a := ⟨N + 1, 0, none⟩) g1).trans o0, (World.cell?_of_block (a := ⟨N + 1, 1, none⟩) g1).trans o1, (World.frozen?_of_block (a := ⟨N + 1, 1, none⟩) g1).trans ofz,
    (congrArg Option.isSome (World.cell?_of_block (a := ⟨N, 0, none⟩) g0)).trans r0, (congrArg Option.isSome (World.cell?_of_block (a := ⟨N, 1, none⟩) g0)).trans r1,
    (World.frozen?_of_block (a := ⟨N, 0, none⟩) g0).trans rf0, (World.frozen?_of_block (a := ⟨N, 1, none⟩) g0).trans rf1, ⟨hown.1, ?_⟩, Nat.le_trans hsz hs⟩
  rcases hown.2 with h0 | ⟨g, c, cur, rfl, h2, h3, h4⟩
  · exact Or.inl h0
  · exact Or.inr ⟨g, c, cur, rfl, h2, (hk g (hv g rfl)).trans h3, h4⟩
theorem NewAt.below {N : Nat} {sc : List UInt8} {v : Value} {l : List A} {W W2 : World} (h : NewAt N sc v l W) (hb : Below W.heap.size W W2) : NewAt N sc v l W2 :=
  h.below_at hb h.2.2.2.2.2.2.2.2 (fun k hk => (h.2.2.2.2.2.2.2.1.lt k hk).2)
/-- what New lays of an attribute in its box -/
def BoxA (W : World) (b : Nat) (a : A) : Prop :=
  W.cell? ⟨b, 0, none⟩ = some (.string ⟨a.name.toArray⟩) ∧ W.cell? ⟨b, 1, none⟩ = some (.int .i64 a.val.kind) ∧ W.cell? ⟨b, 2, none⟩ = some (.int .i64 a.val.int) ∧ W.cell? ⟨b, 3, none⟩ = some (.float .f64 a.val.num) ∧ W.cell? ⟨b, 4, none⟩ = some (.string ⟨a.val.text.toArray⟩) ∧ W.cell? ⟨b, 5, none⟩ = some (.bool a.val.yes)
theorem BoxA.below {W W2 : World} {b : Nat} {a : A} (h : BoxA W b a) (hb : Below W.heap.size W W2) : BoxA W2 b a := by
  obtain ⟨h0, h1, h2, h3, h4, h5⟩ := h
  exact ⟨(hb.cell (World.block_lt_of_cell? _ _ h0)).trans h0, (hb.cell (World.block_lt_of_cell? _ _ h1)).trans h1, (hb.cell (World.block_lt_of_cell? _ _ h2)).trans h2, (hb.cell (World.block_lt_of_cell? _ _ h3)).trans h3, (hb.cell (World.block_lt_of_cell? _ _ h4)).trans h4, (hb.cell (World.block_lt_of_cell? _ _ h5)).trans h5⟩
theorem step_yes {acc : List A} {a : A} (h : foundB acc a.name = true) : stepA acc a = acc.set (bs acc a.name 0 acc.length) (canonA a) := by unfold stepA; rw [h]; rfl
theorem step_no {acc : List A} {a : A} (h : foundB acc a.name = false) : stepA acc a = acc.take (bs acc a.name 0 acc.length) ++ canonA a :: acc.drop (bs acc a.name 0 acc.length) := by unfold stepA; rw [h]; rfl
/-- the row's cells at one element -/
theorem own_at {w : World} {base g cap R : Nat} {l : List A} (h : w.ownsRow base 76 6 (.slice (some ⟨g, 0, none⟩) l.length cap) l.length (flatA l)) (hR : R < l.length) (j : Nat) (hj : j < 6) : ∃ u, w.cell? ⟨g, R * 6 + j, none⟩ = some u := by
  have h1 := h.cellAt (R * 6 + j) (by omega)
  rw [flatA_at l R j hR hj] at h1
  have hl : (cells6 l[R]).length = 6 := rfl
  rw [List.getElem?_eq_getElem (by omega)] at h1
  exact ⟨_, h1⟩
theorem NewAt.kept {N : Nat} {sc : List UInt8} {v v' : Value} {l l' : List A} {W W2 : World} {row : Option Nat} (h : NewAt N sc v l W) (hg : W.grownBy W2 row) (hrow : ∀ k, row = some k → N + 2 ≤ k) (hown' : W2.ownsRow (N + 2) 76 6 v' l'.length (flatA l')) :
    NewAt N sc v' l' (W2.setCell ⟨N + 1, 1, none⟩ v') := by
  obtain ⟨o0, o1, ofz, r0, r1, rf0, rf1, hown, hsz⟩ := h
  have g1 := hg.block (N + 1) (by omega) (fun e => by have := hrow _ e.symm; omega)
  have g0 := hg.block N (by omega) (fun e => by have := hrow _ e.symm; omega)
  have p1 := (World.cell?_of_block (a := ⟨N + 1, 1, none⟩) g1).trans o1
  refine ⟨(World.cell?_setCell_other _ _ _ _ (by simp)).trans ((World.cell?_of_block (a := ⟨N + 1, 0, none⟩) g1).trans o0), World.cell?_setCell_same _ _ _ p1, by rw [World.frozen?_setCell]; exact (World.frozen?_of_block (a := ⟨N + 1, 1, none⟩) g1).trans ofz,
    (congrArg Option.isSome (World.cell?_setCell_other _ _ _ _ (by simp))).trans ((congrArg Option.isSome (World.cell?_of_block (a := ⟨N, 0, none⟩) g0)).trans r0),
    (congrArg Option.isSome (World.cell?_setCell_other _ _ _ _ (by simp))).trans ((congrArg Option.isSome (World.cell?_of_block (a := ⟨N, 1, none⟩) g0)).trans r1),
    by rw [World.frozen?_setCell]; exact (World.frozen?_of_block (a := ⟨N, 0, none⟩) g0).trans rf0, by rw [World.frozen?_setCell]; exact (World.frozen?_of_block (a := ⟨N, 1, none⟩) g0).trans rf1, ?_, ?_⟩
  · exact ownsRow_setCell_below hown' (by show N + 1 < N + 2; omega) _
  · have := hg.size; simp [World.setCell]; omega
/-- a store in place: nothing but the row turns -/
theorem NewAt.same {N : Nat} {sc : List UInt8} {v : Value} {l l' : List A} {W W2 : World} {row : Option Nat} (h : NewAt N sc v l W) (hg : W.grownBy W2 row) (hrow : ∀ k, row = some k → N + 2 ≤ k) (hown' : W2.ownsRow (N + 2) 76 6 v l'.length (flatA l')) :
    NewAt N sc v l' W2 := by
  obtain ⟨o0, o1, ofz, r0, r1, rf0, rf1, hown, hsz⟩ := h
  have g1 := hg.block (N + 1) (by omega) (fun e => by have := hrow _ e.symm; omega)
  have g0 := hg.block N (by omega) (fun e => by have := hrow _ e.symm; omega)
  exact ⟨(World.cell?_of_block (a := ⟨N + 1, 0, none⟩) g1).trans o0, (World.cell?_of_block (a := ⟨N + 1, 1, none⟩) g1).trans o1, (World.frozen?_of_block (a := ⟨N + 1, 1, none⟩) g1).trans ofz,
    (congrArg Option.isSome (World.cell?_of_block (a := ⟨N, 0, none⟩) g0)).trans r0, (congrArg Option.isSome (World.cell?_of_block (a := ⟨N, 1, none⟩) g0)).trans r1,
    (World.frozen?_of_block (a := ⟨N, 0, none⟩) g0).trans rf0, (World.frozen?_of_block (a := ⟨N, 1, none⟩) g0).trans rf1, hown', Nat.le_trans hsz hg.size⟩
theorem newB_take (l : List A) (k : Nat) (h : k < l.length) : newB (l.take (k + 1)) = stepA (newB (l.take k)) l[k] := by
  rw [List.take_succ_eq_append_getElem h, newB_snoc]
attribute [local go_sem] run_store_flt
set_option maxRecDepth 20000 in
set_option maxHeartbeats 400000 in
theorem new_any (sc : List UInt8) (a0 : Option Addr) (cap : Nat) (l : List A) (w : World) (hl : Attrs w a0 l) (hlm : l.length ≤ 100000) :
    Calls Try.prog 35 #[.string ⟨sc.toArray⟩, .slice a0 l.length cap] w fun e w' =>
      ∃ b0 cp, e = .returned (ev sc b0 (newB l).length cp) ∧ Attrs w' b0 (newB l) ∧ w'.ownsRow w.heap.size 76 6 (.slice b0 (newB l).length cp) (newB l).length (flatA (newB l)) ∧ Below w.heap.size w w' := by
  have HL := Lib.hid hl; clear hl
  go_enter Try.func35, Try.ntmps35
  go_wp2_with fail
  go_loopw [14] (fun vi wr => ∃ (kk : Nat) (v : Value), kk ≤ l.length ∧ vi = .int .i64 kk ∧ NewAt w.heap.size sc v (newB (l.take kk)) wr ∧ Below w.heap.size w wr) (fun vi _ => l.length - (intOf vi).toNat)
  case atStart =>
    refine ⟨0, .slice none 0 0, Nat.zero_le _, rfl, ⟨?_, ?_, ?_, ?_, ?_, ?_, ?_, World.ownsRow_nil _ _ _ _, ?_⟩, by repeat (first | assumption | (with_reducible exact Below.refl _ _) | exact balloc _ _ | exact balloc2 _ _ _ | refine btrans ?_ (by assumption) | refine btrans ?_ (balloc _ _))⟩ <;> simp [go_sem]
  case round =>
    obtain ⟨kk, v, hk, rfl, hat, hbr⟩ := hrel
    have hsz := hat.2.2.2.2.2.2.2.2
    by_cases hlt : kk < l.length
    · have i1 : (kk : Int) < (l.length : Int) := by omega
      have i0' : (0 : Int) ≤ (kk : Int) := by omega
      have hks := newB_take l kk hlt
      have hnl := newB_len (l.take kk)
      rw [List.length_take] at hnl
      obtain ⟨a, rfl, v0, v1, v2, v3, v4, v5⟩ := (HL.out.below hbr) kk hlt
      have hv (w : World) := vcanon_any (l[kk]).val.kind (l[kk]).val.int (l[kk]).val.num (l[kk]).val.text (l[kk]).val.yes w
      have HKS := Lib.hid hks; have HAT := Lib.hid hat; have HV := Lib.hid hv; clear hks hat hv
      have hne : w.heap.size + 1 < wr.heap.size := by omega
      generalize newB (l.take kk) = acc at *
      generalize hcv : canonV _ = cv at HV
      have HCV := Lib.hid hcv; clear hcv
      go_wp2_with fail
      refine (HV.out _).mono ?_
      rintro e w2 ⟨rfl, hb2⟩
      have hat2 := (HAT.out.below (balloc _ _)).below hb2
      have hbr2 := btrans (btrans hbr (balloc _ _)) hb2
      have HB2 := Lib.hid hbr2; have HAT2 := Lib.hid hat2
      obtain ⟨o0, o1, ofz, r0, r1, rf0, rf1, hown, hsz2⟩ := hat2
      obtain ⟨hc2, hf2⟩ := bcell hb2
      have q0 := (hc2 wr.heap.size 0 (by simp)).trans (World.cell?_alloc_at _ _ _ _ rfl)
      have q1 := (hc2 wr.heap.size 1 (by simp)).trans (World.cell?_alloc_at _ _ _ _ rfl)
      have q2 := (hc2 wr.heap.size 2 (by simp)).trans (World.cell?_alloc_at _ _ _ _ rfl)
      have q3 := (hc2 wr.heap.size 3 (by simp)).trans (World.cell?_alloc_at _ _ _ _ rfl)
      have q4 := (hc2 wr.heap.size 4 (by simp)).trans (World.cell?_alloc_at _ _ _ _ rfl)
      have q5 := (hc2 wr.heap.size 5 (by simp)).trans (World.cell?_alloc_at _ _ _ _ rfl)
      have z1 := (hf2 wr.heap.size 1 (by simp)).trans (World.frozen?_alloc_at _ _ _ _ rfl)
      have z2 := (hf2 wr.heap.size 2 (by simp)).trans (World.frozen?_alloc_at _ _ _ _ rfl)
      have z3 := (hf2 wr.heap.size 3 (by simp)).trans (World.frozen?_alloc_at _ _ _ _ rfl)
      have z4 := (hf2 wr.heap.size 4 (by simp)).trans (World.frozen?_alloc_at _ _ _ _ rfl)
      have z5 := (hf2 wr.heap.size 5 (by simp)).trans (World.frozen?_alloc_at _ _ _ _ rfl)
      have hs2 : wr.heap.size < w2.heap.size := size1 hb2
      have n1 : ¬ (w.heap.size + 1 = wr.heap.size) := by omega
      have n2 : ¬ (wr.heap.size = w.heap.size + 1) := by omega
      obtain ⟨b0, cp, rfl, hal⟩ := own_attrs hown
      have HAL := Lib.hid hal
      have hgl : ∀ k, (Value.slice b0 acc.length cp).ownBlock = some k → k < wr.heap.size := fun k hk => (HAT.out.2.2.2.2.2.2.2.1.lt k hk).2
      have HGL := Lib.hid hgl
      clear hc2 hf2 hb2 v0 v1 v2 v3 v4 v5 r0 r1 rf0 rf1 hown hal hbr2 HAT hbr hgl
      go_wp2_with fail
      obtain ⟨e0, e1, e2, e3, e4, e5, hb3, hsz3⟩ := set5_from1 w2 wr.heap.size (.int .i64 cv.kind) (.int .i64 cv.int) (.float .f64 cv.num) (.string ⟨cv.text.toArray⟩) (.bool cv.yes) (fun j hj => by
        match j, hj with
        | 0, _ => rw [show 1 + 0 = 1 from rfl, q1]; rfl
        | 1, _ => rw [show 1 + 1 = 2 from rfl, q2]; rfl
        | 2, _ => rw [show 1 + 2 = 3 from rfl, q3]; rfl
        | 3, _ => rw [show 1 + 3 = 4 from rfl, q4]; rfl
        | 4, _ => rw [show 1 + 4 = 5 from rfl, q5]; rfl)
      have e0' := e0.trans q0
      have hbx : BoxA ((((((w2.setCell ⟨wr.heap.size, 1, none⟩ (.int .i64 cv.kind)).setCell ⟨wr.heap.size, 2, none⟩ (.int .i64 cv.int)).setCell ⟨wr.heap.size, 3, none⟩ (.float .f64 cv.num)).setCell ⟨wr.heap.size, 4, none⟩ (.string ⟨cv.text.toArray⟩)).setCell ⟨wr.heap.size, 5, none⟩ (.bool cv.yes))) wr.heap.size ⟨(l[kk]).name, cv⟩ := ⟨e0', e1, e2, e3, e4, e5⟩
      clear q0 q1 q2 q3 q4 q5 z1 z2 z3 z4 z5 e0 e1 e2 e3 e4 e5 e0' o0 o1 ofz
      generalize World.setCell _ _ _ = W3 at *
      have hat3 := HAT2.out.below_at hb3 hsz HGL.out
      have hbr3 : Below w.heap.size w W3 := HB2.out.trans (hb3.mono (by omega))
      obtain ⟨b1, cp1, hbe, hal3⟩ := own_attrs hat3.2.2.2.2.2.2.2.1
      cases hbe
      have hrl := bs_le acc (l[kk]).name 0 acc.length (Nat.zero_le _)
      have hsn : foundB acc (l[kk]).name = false → stepA acc l[kk] = acc.take (bs acc (l[kk]).name 0 acc.length) ++ canonA l[kk] :: acc.drop (bs acc (l[kk]).name 0 acc.length) := step_no
      have hsy : foundB acc (l[kk]).name = true → stepA acc l[kk] = acc.set (bs acc (l[kk]).name 0 acc.length) (canonA l[kk]) := step_yes
      have hfa : foundB acc (l[kk]).name = true → bs acc (l[kk]).name 0 acc.length < acc.length := fun h => (found_at h).1
      have hfind := find_any sc b0 cp acc (l[kk]).name W3 hal3 (by omega)
      have hca : canonA l[kk] = ⟨(l[kk]).name, cv⟩ := by rw [← HCV.out]; rfl
      rw [hca] at hsn hsy
      generalize foundB acc (l[kk]).name = F at *
      generalize bs acc (l[kk]).name 0 acc.length = R at *
      refine hfind.mono ?_
      rintro e w4 ⟨rfl, hb4⟩
      have hat4 := hat3.below hb4
      have hbx4 := hbx.below hb4
      have hbr4 := btrans hbr3 hb4
      have hs4 := hb4.size
      have HBR4 := Lib.hid hbr4; have HAT4 := Lib.hid hat4; have HSN := Lib.hid hsn; have HSY := Lib.hid hsy
      obtain ⟨o0, o1, ofz, r0, r1, rf0, rf1, hown4, hsz4⟩ := hat4
      obtain ⟨q0, q1, q2, q3, q4, q5⟩ := hbx4
      have OWN4 := Lib.hid hown4
      clear hbr3 hbr4 hat3 hb3 hb4 hal3 hbx hfind hsn hsy hca r0 r1 rf0 rf1 HAT2 HB2 HAL
      cases F
      · clear hfa
        go_wp2_with fail
        have hl5 : (acc.take R ++ (⟨(l[kk]).name, cv⟩ : A) :: acc.drop R).length = acc.length + 1 := by
          simp only [List.length_append, List.length_take, List.length_cons, List.length_drop]; omega
        have HL5 := Lib.hid hl5; clear hl5
        refine (insert_any b0 cp acc ⟨(l[kk]).name, cv⟩ R w4.heap.size 1 (w.heap.size + 2) 76 _ (OWN4.out.alloc _) (by simp; omega) (by omega) hrl (heap_alloc_new w4 _) (fun e => by have := (OWN4.out.lt _ e).2; omega)).mono ?_
        rintro e w5 ⟨v', rfl, hown5, hg5⟩
        rw [← HL5.out] at hown5
        obtain ⟨nx, hnx⟩ : ∃ nx : List A, nx = acc.take R ++ (⟨(l[kk]).name, cv⟩ : A) :: acc.drop R := ⟨_, rfl⟩
        rw [← hnx] at hown5
        have HNX := Lib.hid hnx; clear hnx HL5
        obtain ⟨b1, cp1, rfl, _⟩ := own_attrs hown5
        have hrow : ∀ k, (Value.slice b0 acc.length cp).ownBlock = some k → w.heap.size + 2 ≤ k := fun k hk => (OWN4.out.lt k hk).1
        have hk5 := (HAT4.out.below (balloc w4 (.cells #[.string ⟨(l[kk]).name.toArray⟩, .int .i64 cv.kind, .int .i64 cv.int, .float .f64 cv.num, .string ⟨cv.text.toArray⟩, .bool cv.yes] 76))).kept hg5 hrow hown5
        have g1 := hg5.block (w.heap.size + 1) (by simp; omega) (fun e => by have := hrow _ e.symm; omega)
        have p1 := (World.cell?_of_block (a := ⟨w.heap.size + 1, 1, none⟩) g1).trans ((World.cell?_alloc_past (w := w4) _ (w.heap.size + 1) 1 (by omega)).trans o1)
        have pz := (World.frozen?_of_block (a := ⟨w.heap.size + 1, 1, none⟩) g1).trans ((World.frozen?_alloc_past (w := w4) _ (w.heap.size + 1) 1 (by omega)).trans ofz)
        have hbf : Below w.heap.size w w5 := Below.grown (btrans HBR4.out (balloc _ _)) hg5 (by have := HBR4.out.size; simp; omega) (fun k hk => by have := hrow k hk; omega)
        have HK5 := Lib.hid hk5; have HBF := Lib.hid hbf; have OWN5 := Lib.hid hown5; have HG5 := Lib.hid hg5
        clear hk5 hbf hown5 hg5 g1 hrow o0 o1 ofz q0 q1 q2 q3 q4 q5
        go_wp2_with fail
        exact ⟨⟨kk + 1, _, by omega, by go_num, by rw [HKS.out, HSN.out trivial, ← HNX.out]; exact HK5.out, HBF.out.setCell (by simp) _⟩, by simp [intOf]; go_num⟩
      · have hR := hfa rfl
        clear hfa
        obtain ⟨g, cp2, hbe⟩ : ∃ g cp2, b0 = some ⟨g, 0, none⟩ ∧ cp = cp2 := by
          rcases hown4.2 with ⟨_, h0⟩ | ⟨g, c, _, he, _⟩
          · omega
          · cases he; exact ⟨g, _, rfl, rfl⟩
        obtain ⟨rfl, rfl⟩ := hbe
        obtain ⟨u0, c0⟩ := own_at hown4 hR 0 (by decide)
        obtain ⟨u1, c1⟩ := own_at hown4 hR 1 (by decide)
        obtain ⟨u2, c2⟩ := own_at hown4 hR 2 (by decide)
        obtain ⟨u3, c3⟩ := own_at hown4 hR 3 (by decide)
        obtain ⟨u4, c4⟩ := own_at hown4 hR 4 (by decide)
        obtain ⟨u5, c5⟩ := own_at hown4 hR 5 (by decide)
        rw [Nat.add_zero] at c0
        have f0 := hown4.frozenAt (R * 6)
        have f1 := hown4.frozenAt (R * 6 + 1)
        have f2 := hown4.frozenAt (R * 6 + 2)
        have f3 := hown4.frozenAt (R * 6 + 3)
        have f4 := hown4.frozenAt (R * 6 + 4)
        have f5 := hown4.frozenAt (R * 6 + 5)
        have r0 : (R : Int) < (acc.length : Int) := by omega
        obtain ⟨hst1, hst2⟩ := set_row6 ⟨(l[kk]).name, cv⟩ hown4 hR
        have HST1 := Lib.hid hst1; have HST2 := Lib.hid hst2
        clear hown4 hst1 hst2
        go_wp2_with fail
        refine ⟨⟨kk + 1, .slice (some ⟨g, 0, none⟩) acc.length cp, by omega, by go_num, ?_, ?_⟩, by simp [intOf]; go_num⟩
        · rw [HKS.out, HSY.out trivial]
          refine HAT4.out.same HST2.out (fun k e => by cases e; exact (OWN4.out.lt g rfl).1) ?_
          have h1 := HST1.out
          simp only [List.length_set] at h1 ⊢
          exact h1
        · exact Below.grown HBR4.out HST2.out HBR4.out.size (fun k e => by cases e; have := (OWN4.out.lt g rfl).1; omega)
    · have i1 : ¬ (kk : Int) < (l.length : Int) := by omega
      obtain rfl : kk = l.length := by omega
      rw [List.take_length] at hat
      obtain ⟨o0, o1, ofz, r0, r1, rf0, rf1, hown, _⟩ := hat
      obtain ⟨b0, cp, rfl, hat⟩ := own_attrs hown
      have OWN := Lib.hid hown; have HAT := Lib.hid hat; clear hown hat
      obtain ⟨u0, hu0⟩ := Option.isSome_iff_exists.1 r0
      obtain ⟨u1, hu1⟩ := Option.isSome_iff_exists.1 r1
      clear r0 r1
      go_wp2
      have e0 : ((wr.setCell ⟨w.heap.size, 0, none⟩ (.string ⟨sc.toArray⟩)).setCell ⟨w.heap.size, 1, none⟩ (.slice b0 (newB l).length cp)).cell? ⟨w.heap.size, 0, none⟩ = some (.string ⟨sc.toArray⟩) := (World.cell?_setCell_other _ _ _ _ (by simp)).trans (World.cell?_setCell_same _ _ _ hu0)
      have e1 : ((wr.setCell ⟨w.heap.size, 0, none⟩ (.string ⟨sc.toArray⟩)).setCell ⟨w.heap.size, 1, none⟩ (.slice b0 (newB l).length cp)).cell? ⟨w.heap.size, 1, none⟩ = some (.slice b0 (newB l).length cp) := World.cell?_setCell_same _ _ _ ((World.cell?_setCell_other _ _ _ _ (by simp)).trans hu1)
      have ow := ownsRow_setCell_below (a := ⟨w.heap.size, 1, none⟩) (ownsRow_setCell_below (a := ⟨w.heap.size, 0, none⟩) OWN.out (by show w.heap.size < w.heap.size + 2; omega) (.string ⟨sc.toArray⟩)) (by show w.heap.size < w.heap.size + 2; omega) (.slice b0 (newB l).length cp)
      have hbb := (hbr.setCell (p := ⟨w.heap.size, 0, none⟩) (by simp) (.string ⟨sc.toArray⟩)).setCell (p := ⟨w.heap.size, 1, none⟩) (by simp) (.slice b0 (newB l).length cp)
      generalize World.setCell _ _ _ = W2 at *
      refine bodyPost_ret (v := ev sc b0 (newB l).length cp) (by simp [results, Try.results35, go_sem, e0, e1]; try rfl) rfl ?_
      obtain ⟨b1, cp1, he, hat2⟩ := own_attrs ow
      cases he
      refine ⟨b0, cp, rfl, hat2, ?_, hbb⟩
      exact ⟨ow.1, ow.2.imp id (fun ⟨g, c, cur, h1, h2, h3⟩ => ⟨g, c, cur, h1, by omega, h3⟩)⟩
end Go.Proofs.Ytpbdgbejcdncgaa.Val
