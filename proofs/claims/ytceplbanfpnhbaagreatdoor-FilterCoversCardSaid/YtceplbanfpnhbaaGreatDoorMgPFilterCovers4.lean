/- MERGED BY A PROGRAM OF MINE (mgx.py) out of my own texts, in their order: OpenTwoF, BoxNew, Boxes, TwoF, Ref06, FRef, RefVoid, RefImpl, RefImp2, RefC, FCovers. -/
import Derived.Test.YtceplbanfpnhbaaGreatDoorMgPFilterCovers3
import Derived.Test.YtceplbanfpnhbaaGreatDoorCond
import Derived.Deep.DeepCutAuto
import Derived.Deep.LoopGhost
import Derived.BigRegion

section
/- AN ARRAY OF TWO FILTERS AS AN ARGUMENT. -/
namespace Go.Proofs.YtceplbanfpnhbaaGreatDoor.Open
open Go.ChangeShapes Go.WideShapes Go.ChangeAt Go.RowKit Go.Deep
/-- what is known of a filter that came in -/
def FIn (w : World) (sc : List UInt8) (a0 : Option Addr) (cap : Nat) (l : List Val.C) : Prop :=
  sc.length ≤ 140737488351232 ∧ l.length ≤ cap ∧ cap ≤ maxLen ∧ Val.Conds w a0 l ∧ (∀ x ∈ l, COk x) ∧ (a0 = none → l = [] ∧ cap = 0)
section
variable {H : Type} {enc : TypeId × Value → H} {w : World} {base : Nat} {spare : Nat → Bool} {held : Bool}
set_option maxRecDepth 100000 in
theorem open_twof {r : Reach} {b0 : Nat} {v : Value} {d : DataW H} {p : List MemPlace} (hv : Value.okWide Tryz.prog w r b0 53 v) (h : DataW.Trod enc Tryz.prog w base spare held 53 v d p)
    (hr : ∀ k ∈ DataW.weights Tryz.prog 53 d, k ≤ 140737488351232) :
    ∃ (s1 : List UInt8) (a1 : Option Addr) (c1 : Nat) (l1 : List Val.C) (s2 : List UInt8) (a2 : Option Addr) (c2 : Nat) (l2 : List Val.C),
      v = .agg #[.string ⟨s1.toArray⟩, .slice a1 l1.length c1, .string ⟨s2.toArray⟩, .slice a2 l2.length c2] ∧ FIn w s1 a1 c1 l1 ∧ FIn w s2 a2 c2 l2 := by
  have hu : Tryz.prog.underlying 53 = some (.array 2 24) := Tryz.underlying53
  have hc : Tryz.prog.cellsOf 24 = 2 := by kernel_rfl
  have hc2 : Tryz.prog.cellsOf 53 = 4 := by kernel_rfl
  have hagg : ∃ cs, v = .agg cs := by
    simp only [Value.okWide, hu] at hv
    obtain ⟨cs, h, _⟩ := hv
    exact ⟨cs, h⟩
  obtain ⟨cs, rfl⟩ := hagg
  obtain ⟨fuel, hf⟩ := h
  obtain ⟨xs, m, _, hxd, hl, hx, hi⟩ := DataW.trod_array hu hf
  rw [hc2] at hl
  obtain ⟨l⟩ := cs
  have hl' : l.length = 4 := by simpa [Value.cells] using hl
  have hd : d = .agg (xs.map (·.1)) := congrArg Prod.fst hxd
  have hw : ∀ i (hi : i < xs.length), ∀ k ∈ DataW.weights Tryz.prog 24 (xs[i]).1, k ≤ 140737488351232 := fun i hi k hk => by
    refine hr k ?_
    rw [hd]
    simp only [DataW.weights, hu]
    exact weightsAll_mem (List.mem_map.2 ⟨xs[i], List.getElem_mem hi, rfl⟩) k hk
  have one : ∀ i (hi3 : i < xs.length) (u0 u1 : Value), DataW.trod enc Tryz.prog w base spare held m 24 [u0, u1] = some xs[i] →
      ∃ (sc : List UInt8) (a0 : Option Addr) (cap : Nat) (l : List Val.C), [u0, u1] = [.string ⟨sc.toArray⟩, .slice a0 l.length cap] ∧ FIn w sc a0 cap l := fun i hi3 u0 u1 ht => by
    have hcs := cells_of 3 filter_packed ht (by rw [hc]; rfl)
    rw [filter_leaves] at hcs
    obtain ⟨sc, a0, cap, l, e, rest⟩ := filter_cells (hw i hi3) hcs
    exact ⟨sc, a0, cap, l, e, rest⟩
  match l, hl' with
  | [c0, c1, c2, c3], _ =>
    have h0 := hi 0 (by decide)
    have h1 := hi 1 (by decide)
    have l0 : 0 < xs.length := by omega
    have l1 : 1 < xs.length := by omega
    rw [hc] at h0 h1
    rw [List.getElem?_eq_getElem l0] at h0
    rw [List.getElem?_eq_getElem l1] at h1
    simp only [Value.cells, Nat.zero_mul, Nat.one_mul, List.drop_zero, List.drop_succ_cons, List.take_succ_cons, List.take_zero] at h0 h1
    obtain ⟨s1, a1, p1, m1, e1, f1⟩ := one 0 l0 _ _ h0
    obtain ⟨s2, a2, p2, m2, e2, f2⟩ := one 1 l1 _ _ h1
    simp only [List.cons.injEq, and_true] at e1 e2
    exact ⟨s1, a1, p1, m1, s2, a2, p2, m2, by rw [e1.1, e1.2, e2.1, e2.2], f1, f2⟩
end
end Go.Proofs.YtceplbanfpnhbaaGreatDoor.Open
end

section
/- A FILTER'S BOX THAT IS LAID EARLY, and written late. No walk. -/
namespace Go.Proofs.YtceplbanfpnhbaaGreatDoor.Val
open Go.RowKit Flt
/-- a filter's box, as it is laid -/
def NewBox (W : World) (q : Nat) : Prop := W.heap[q]? = some (.cells #[.string ⟨#[]⟩, .slice none 0 0] 24 (0, 0))
theorem newbox_alloc (W : World) : NewBox (W.alloc (.cells #[.string ⟨#[]⟩, .slice none 0 0] 24)) W.heap.size := by
  show (W.heap.push _)[W.heap.size]? = _
  rw [Array.getElem?_push_size]
theorem NewBox.lt {W : World} {q : Nat} (h : NewBox W q) : q < W.heap.size := by
  by_cases e : q < W.heap.size
  · exact e
  · unfold NewBox at h
    rw [Array.getElem?_eq_none (by omega)] at h; cases h
theorem NewBox.low {W W2 : World} {q : Nat} (h : NewBox W q) (hb : Below W.heap.size W W2) : NewBox W2 q := (hb.block q h.lt).trans h
theorem NewBox.grown {W W2 : World} {q : Nat} {row : Option Nat} (h : NewBox W q) (hg : W.grownBy W2 row) (hne : some q ≠ row) : NewBox W2 q := (hg.block q h.lt hne).trans h
theorem NewBox.cells {W : World} {q : Nat} (h : NewBox W q) : W.cell? ⟨q, 0, none⟩ = some (.string ⟨#[]⟩) ∧ W.cell? ⟨q, 1, none⟩ = some (.slice none 0 0) ∧ W.frozen? ⟨q, 0, none⟩ = false ∧ W.frozen? ⟨q, 1, none⟩ = false := by
  unfold NewBox at h
  refine ⟨?_, ?_, ?_, ?_⟩ <;> simp [World.cell?, World.frozen?, h]
theorem newbox_store {W : World} {q : Nat} (h : NewBox W q) (s : List UInt8) (b : Option Addr) (n cap : Nat) :
    Box2 ((W.setCell ⟨q, 0, none⟩ (.string ⟨s.toArray⟩)).setCell ⟨q, 1, none⟩ (.slice b n cap)) q s b n cap := by
  obtain ⟨c0, c1, _, _⟩ := h.cells
  exact ⟨(World.cell?_setCell_other _ _ _ _ (by simp)).trans (World.cell?_setCell_same _ _ _ c0), World.cell?_setCell_same _ _ _ ((World.cell?_setCell_other _ _ _ _ (by simp)).trans c1)⟩
theorem conds_set {W : World} {b0 : Option Addr} {l : List C} {q o : Nat} (h : Conds W b0 l) (hne : ∀ a, b0 = some a → a.block ≠ q) (u : Value) : Conds (W.setCell ⟨q, o, none⟩ u) b0 l := fun i hi => by
  obtain ⟨a, rfl, h0, h1, h2, h3, h4, h5, h6⟩ := h i hi
  have hq : (a.add (i * 7)).block ≠ q := by
    have : (a.add (i * 7)).block = a.block := by unfold Addr.add; split <;> rfl
    rw [this]; exact hne a rfl
  have k : ∀ p : Addr, p.block = (a.add (i * 7)).block → (W.setCell ⟨q, o, none⟩ u).cell? p = W.cell? p := fun p hp => World.cell?_setCell_other _ _ _ _ (by rintro rfl; exact hq hp.symm)
  exact ⟨_, rfl, (k _ rfl).trans h0, (k ⟨_, _, none⟩ rfl).trans h1, (k ⟨_, _, none⟩ rfl).trans h2, (k ⟨_, _, none⟩ rfl).trans h3, (k ⟨_, _, none⟩ rfl).trans h4, (k ⟨_, _, none⟩ rfl).trans h5, (k ⟨_, _, none⟩ rfl).trans h6⟩
end Go.Proofs.YtceplbanfpnhbaaGreatDoor.Val
end

section
/- BOXES OF FILTERS THAT ARE LAID EARLY AND WRITTEN LATE, what is left untouched by a store into one. No walk. -/
namespace Go.Proofs.YtceplbanfpnhbaaGreatDoor.Val
open Go.RowKit Flt
/-- the world behind a store of a filter into a box -/
def putF (W : World) (q : Nat) (s : List UInt8) (b : Option Addr) (n cap : Nat) : World := (W.setCell ⟨q, 0, none⟩ (.string ⟨s.toArray⟩)).setCell ⟨q, 1, none⟩ (.slice b n cap)
theorem newbox_far {W : World} {p q : Nat} (h : NewBox W q) (hne : q ≠ p) (s : List UInt8) (b : Option Addr) (n cap : Nat) : NewBox (putF W p s b n cap) q := by
  unfold NewBox putF at *
  rw [Below.heap_setCell _ _ _ _ (show q ≠ p from hne), Below.heap_setCell _ _ _ _ (show q ≠ p from hne)]
  exact h
theorem box2_far {W : World} {p q : Nat} {s2 : List UInt8} {b2 : Option Addr} {n2 cap2 : Nat} (h : Box2 W q s2 b2 n2 cap2) (hne : q ≠ p) (s : List UInt8) (b : Option Addr) (n cap : Nat) : Box2 (putF W p s b n cap) q s2 b2 n2 cap2 := by
  have k : ∀ o, (putF W p s b n cap).cell? ⟨q, o, none⟩ = W.cell? ⟨q, o, none⟩ := fun o => by
    unfold putF
    have ne : ∀ i : Nat, (⟨p, i, none⟩ : Addr) ≠ ⟨q, o, none⟩ := fun i e => hne (congrArg Addr.block e).symm
    exact (World.cell?_setCell_other _ _ _ _ (by first | exact ne _ | exact (ne _).symm)).trans (World.cell?_setCell_other _ _ _ _ (by first | exact ne _ | exact (ne _).symm))
  exact ⟨(k 0).trans h.1, (k 1).trans h.2⟩
theorem conds_off {W : World} {q : Nat} (h : NewBox W q) {b : Option Addr} {L : List C} (hc : Conds W b L) : L = [] ∨ ∀ a, b = some a → a.block ≠ q := by
  cases L with
  | nil => exact .inl rfl
  | cons c r =>
    refine .inr fun a ha e => ?_
    obtain ⟨a', e', hat⟩ := hc 0 (by simp)
    rw [ha] at e'
    cases e'
    have h6 := hat.2.2.2.2.2.2
    have hb : (a.add (0 * 7)).block = q := by
      rw [← e]; unfold Addr.add; split <;> rfl
    rw [hb] at h6
    unfold NewBox at h
    simp [World.cell?, h] at h6
theorem conds_put {W : World} {q : Nat} (h : NewBox W q) {b2 : Option Addr} {L : List C} (hc : Conds W b2 L) (s : List UInt8) (b : Option Addr) (n cap : Nat) : Conds (putF W q s b n cap) b2 L := by
  rcases conds_off h hc with rfl | hne
  · exact conds_nil _ _
  · exact conds_set (conds_set hc hne _) hne _
theorem newbox_put {W : World} {q : Nat} (h : NewBox W q) (s : List UInt8) (b : Option Addr) (n cap : Nat) : Box2 (putF W q s b n cap) q s b n cap := newbox_store h s b n cap
theorem below_put {B : Nat} {W0 W : World} {q : Nat} (h : Below B W0 W) (hq : B ≤ q) (s : List UInt8) (b : Option Addr) (n cap : Nat) : Below B W0 (putF W q s b n cap) :=
  (h.setCell (p := ⟨q, 0, none⟩) hq _).setCell (p := ⟨q, 1, none⟩) hq _
end Go.Proofs.YtceplbanfpnhbaaGreatDoor.Val
end

section
/- TWO FILTERS OUT OF AN ARRAY: what the laws FilterCovers and FilterKeys have alike. No walk. -/
namespace Go.Proofs.YtceplbanfpnhbaaGreatDoor.Val
open Go.RowKit Flt
def Box4 (w : World) (b : Nat) (s1 : List UInt8) (a1 : Option Addr) (n1 c1 : Nat) (s2 : List UInt8) (a2 : Option Addr) (n2 c2 : Nat) : Prop :=
  w.cell? ⟨b, 0, none⟩ = some (.string ⟨s1.toArray⟩) ∧ w.cell? ⟨b, 1, none⟩ = some (.slice a1 n1 c1) ∧ w.cell? ⟨b, 2, none⟩ = some (.string ⟨s2.toArray⟩) ∧ w.cell? ⟨b, 3, none⟩ = some (.slice a2 n2 c2)
theorem Box4.below {w w2 : World} {b : Nat} {s1 : List UInt8} {a1 : Option Addr} {n1 c1 : Nat} {s2 : List UInt8} {a2 : Option Addr} {n2 c2 : Nat} (h : Box4 w b s1 a1 n1 c1 s2 a2 n2 c2) (hb : Below w.heap.size w w2) : Box4 w2 b s1 a1 n1 c1 s2 a2 n2 c2 := by
  obtain ⟨h0, h1, h2, h3⟩ := h
  exact ⟨(hb.cell (World.block_lt_of_cell? _ _ h0)).trans h0, (hb.cell (World.block_lt_of_cell? _ _ h1)).trans h1, (hb.cell (World.block_lt_of_cell? _ _ h2)).trans h2, (hb.cell (World.block_lt_of_cell? _ _ h3)).trans h3⟩
theorem box4_new (w : World) (s1 : List UInt8) (a1 : Option Addr) (n1 c1 : Nat) (s2 : List UInt8) (a2 : Option Addr) (n2 c2 : Nat) (T : TypeId) :
    Box4 (w.alloc (.cells #[.string ⟨s1.toArray⟩, .slice a1 n1 c1, .string ⟨s2.toArray⟩, .slice a2 n2 c2] T)) w.heap.size s1 a1 n1 c1 s2 a2 n2 c2 := by
  have c : ∀ o, (w.alloc (.cells #[.string ⟨s1.toArray⟩, .slice a1 n1 c1, .string ⟨s2.toArray⟩, .slice a2 n2 c2] T)).cell? ⟨w.heap.size, o, none⟩ = #[.string ⟨s1.toArray⟩, .slice a1 n1 c1, .string ⟨s2.toArray⟩, .slice a2 n2 c2][o]? := fun o => World.cell?_alloc_at _ _ _ _ rfl
  exact ⟨c 0, c 1, c 2, c 3⟩
theorem boxt_new (W : World) (s1 : List UInt8) (a1 : Option Addr) (n1 c1 : Nat) (s2 : List UInt8) (a2 : Option Addr) (n2 c2 : Nat) (T : TypeId) :
    Box2 ((W.alloc (.cells #[.string ⟨s1.toArray⟩, .slice a1 n1 c1] T)).alloc (.cells #[.string ⟨s2.toArray⟩, .slice a2 n2 c2] T)).drew W.heap.size s1 a1 n1 c1 ∧
    Box2 ((W.alloc (.cells #[.string ⟨s1.toArray⟩, .slice a1 n1 c1] T)).alloc (.cells #[.string ⟨s2.toArray⟩, .slice a2 n2 c2] T)).drew (W.heap.size + 1) s2 a2 n2 c2 ∧
    Below W.heap.size W ((W.alloc (.cells #[.string ⟨s1.toArray⟩, .slice a1 n1 c1] T)).alloc (.cells #[.string ⟨s2.toArray⟩, .slice a2 n2 c2] T)).drew := by
  have h1 := (box2_new W s1 a1 n1 c1 T).below (balloc _ (.cells #[.string ⟨s2.toArray⟩, .slice a2 n2 c2] T))
  have h2 := box2_new (W.alloc (.cells #[.string ⟨s1.toArray⟩, .slice a1 n1 c1] T)) s2 a2 n2 c2 T
  rw [World.size_alloc] at h2
  exact ⟨h1, h2, bdrewN (balloc2 W _ _) 1⟩
end Go.Proofs.YtceplbanfpnhbaaGreatDoor.Val
end

section
/- THE WALKS OF the document's answers for package cond. -/
namespace Go.Proofs.YtceplbanfpnhbaaGreatDoor.Val
open Go.RowKit Flt
set_option maxHeartbeats 400000 in
theorem rvoid_any (k n : Int) (x : Nat) (t : List UInt8) (y : Bool) (w : World) :
    Calls Tryz.prog 95 #[val k n x t y] w fun e w' => e = .returned (.bool (voidB ⟨k, n, x, t, y⟩)) ∧ Below w.heap.size w w' := by
  have hk : voidB ⟨k, n, x, t, y⟩ = ((k == 1) && nan x) := rfl
  have hx := Ord.ford_ne_self x
  cases h : (k == 1)
  · rw [h] at hk
    have HK := Lib.hid hk; clear hk
    go_enter Tryz.func95, Tryz.ntmps95
    go_wp2
    go_ret
    exact ⟨ret_bool (by rw [HK.out]; rfl), balloc _ _⟩
  · rw [h] at hk
    have HK := Lib.hid hk; clear hk
    go_enter Tryz.func95, Tryz.ntmps95
    go_wp2
    go_ret
    exact ⟨ret_bool (by rw [HK.out]; rfl), balloc _ _⟩
/-- some draws, and nothing else -/
def Drawn (w w' : World) : Prop := ∃ n, w' = w.drewN n
theorem Drawn.refl (w : World) : Drawn w w := ⟨0, rfl⟩
theorem Drawn.more {w a : World} (h : Drawn w a) (n : Nat) : Drawn w (a.drewN n) := by
  obtain ⟨m, rfl⟩ := h; exact ⟨m + n, by simp [World.drewN, Nat.add_assoc]⟩
theorem Drawn.below {w w' : World} (h : Drawn w w') : Below w.heap.size w w' := by
  obtain ⟨n, rfl⟩ := h; exact bdrewN (Below.refl _ _) n
theorem cmp_pre (p x y : List UInt8) : Lib.compareBytes (p ++ x) (p ++ y) = Lib.compareBytes x y := by
  induction p with
  | nil => rfl
  | cons c p ih => simp [Lib.compareBytes, ih]
theorem cmp_at (a b : List UInt8) (k : Nat) (ha : k < a.length) (hb : k < b.length) (h : a.take k = b.take k) :
    Lib.compareBytes a b = if a[k] < b[k] then -1 else if b[k] < a[k] then 1 else Lib.compareBytes (a.drop (k + 1)) (b.drop (k + 1)) := by
  have e1 : a = a.take k ++ a[k] :: a.drop (k + 1) := by rw [List.getElem_cons_drop]; exact (List.take_append_drop _ _).symm
  have e2 : b = a.take k ++ b[k] :: b.drop (k + 1) := by rw [List.getElem_cons_drop, h]; exact (List.take_append_drop _ _).symm
  conv => lhs; rw [e1, e2]
  rw [cmp_pre]; rfl
theorem cmp_end (a b : List UInt8) (k : Nat) (ha : k ≤ a.length) (hb : k ≤ b.length) (he : k = a.length ∨ k = b.length) (h : a.take k = b.take k) :
    Lib.compareBytes a b = if a.length < b.length then -1 else if b.length < a.length then 1 else 0 := by
  have e1 : a = a.take k ++ a.drop k := (List.take_append_drop _ _).symm
  have e2 : b = a.take k ++ b.drop k := by rw [h]; exact (List.take_append_drop _ _).symm
  have l1 : (a.drop k).length = a.length - k := List.length_drop
  have l2 : (b.drop k).length = b.length - k := List.length_drop
  have : Lib.compareBytes a b = Lib.compareBytes (a.drop k) (b.drop k) := by conv => lhs; rw [e1, e2]; rw [cmp_pre]
  rw [this]
  cases hx : a.drop k with
  | nil =>
    rw [hx] at l1; simp at l1
    cases hy : b.drop k with
    | nil => rw [hy] at l2; simp at l2; rw [if_neg (by omega), if_neg (by omega)]; rfl
    | cons d r => rw [hy] at l2; simp at l2; rw [if_pos (by omega)]; rfl
  | cons c r =>
    rw [hx] at l1; simp at l1
    cases hy : b.drop k with
    | nil => rw [hy] at l2; simp at l2; rw [if_neg (by omega), if_pos (by omega)]; rfl
    | cons d r' => rw [hy] at l2; simp at l2; omega
theorem take_next {a b : List UInt8} {k : Nat} (ha : k < a.length) (hb : k < b.length) (h : a.take k = b.take k) (e : a[k] = b[k]) : a.take (k + 1) = b.take (k + 1) := by
  rw [List.take_succ_eq_append_getElem ha, List.take_succ_eq_append_getElem hb, h, e]
def TextRel (a b : List UInt8) (w : World) (i : Value) (wr : World) : Prop := ∃ k : Nat, k ≤ a.length ∧ k ≤ b.length ∧ i = .int .i64 k ∧ a.take k = b.take k ∧ Drawn w wr
theorem byte_three (c d : UInt8) : (((c.toNat : Int) == (d.toNat : Int)) = true ∧ c = d) ∨ (((c.toNat : Int) == (d.toNat : Int)) = false ∧ (c.toNat : Int) < (d.toNat : Int) ∧ c < d) ∨ (((c.toNat : Int) == (d.toNat : Int)) = false ∧ ¬ (c.toNat : Int) < (d.toNat : Int) ∧ d < c) := by
  rcases Nat.lt_trichotomy c.toNat d.toNat with h | h | h
  · right; left; exact ⟨by rw [beq_eq_false_iff_ne]; omega, by omega, UInt8.lt_iff_toNat_lt.2 h⟩
  · left; exact ⟨by rw [beq_iff_eq]; omega, UInt8.toNat_inj.1 h⟩
  · right; right; exact ⟨by rw [beq_eq_false_iff_ne]; omega, by omega, UInt8.lt_iff_toNat_lt.2 h⟩
theorem ret_int {a b : Int} (h : a = b) : Ending.returned (.int .i64 a) = .returned (.int .i64 b) := by rw [h]
set_option maxHeartbeats 1000000 in
theorem rtexts_any (a b : ByteArray) (w : World) (ha : a.size ≤ maxLen) :
    Calls Tryz.prog 120 #[.string a, .string b] w fun e w' => e = .returned (.int .i64 (Lib.compareBytes a.data.toList b.data.toList)) ∧ Drawn w w' := by
  unfold maxLen at ha
  have hsa : a.data.toList.length = a.size := by rw [Array.length_toList]; rfl
  have hsb : b.data.toList.length = b.size := by rw [Array.length_toList]; rfl
  go_enter Tryz.func120, Tryz.ntmps120
  go_wp2
  go_loopw [5] (fun i wr => TextRel a.data.toList b.data.toList w i wr) (fun i _ => a.size - (intOf i).toNat)
  case atStart => exact ⟨0, Nat.zero_le _, Nat.zero_le _, rfl, rfl, Drawn.refl _⟩
  case round =>
    obtain ⟨k, hka, hkb, rfl, hst, ⟨nd, rfl⟩⟩ := hrel
    have HST := Lib.hid hst; have HA := Lib.hid hsa; have HB := Lib.hid hsb; clear hst hsa hsb
    rw [HA.out] at hka
    rw [HB.out] at hkb
    have i0 : (0 : Int) ≤ (k : Int) := by omega
    by_cases h1 : k < a.size
    · have g1 : a.data.toList[k]'(by rw [HA.out]; exact h1) = a[k] := by rw [Array.getElem_toList]; rfl
      have G1 := Lib.hid g1; clear g1
      by_cases h2 : k < b.size
      · have g2 : b.data.toList[k]'(by rw [HB.out]; exact h2) = b[k] := by rw [Array.getElem_toList]; rfl
        have hat := cmp_at a.data.toList b.data.toList k (by rw [HA.out]; exact h1) (by rw [HB.out]; exact h2) HST.out
        rw [G1.out, g2] at hat
        have G2 := Lib.hid g2; have HAT := Lib.hid hat; clear g2 hat
        have i1 : (k : Int) < (a.size : Int) := by omega
        have i2 : (k : Int) < (b.size : Int) := by omega
        rcases byte_three a[k] b[k] with ⟨q, hq⟩ | ⟨q, q2, hq⟩ | ⟨q, q2, hq⟩
        · have HQ := Lib.hid hq; clear hq
          go_wp2
          go_quiet (fail)
          go_wp2
          exact ⟨⟨k + 1, by rw [HA.out]; omega, by rw [HB.out]; omega, by go_num, take_next (by rw [HA.out]; exact h1) (by rw [HB.out]; exact h2) HST.out (by rw [G1.out, G2.out]; exact HQ.out), ⟨_, rfl⟩⟩, by simp [intOf]; omega⟩
        · have HQ := Lib.hid hq; clear hq
          go_wp2
          go_quiet (fail)
          go_wp2
          go_quiet (fail)
          go_wp2
          go_ret
          exact ⟨ret_int (by rw [HAT.out, if_pos HQ.out]), ((Drawn.refl w).more _).more _ |>.more _⟩
        · have HQ := Lib.hid hq; clear hq
          go_wp2
          go_quiet (fail)
          go_wp2
          go_quiet (fail)
          go_wp2
          go_ret
          exact ⟨ret_int (by rw [HAT.out, if_neg (fun h => absurd (UInt8.lt_iff_toNat_lt.1 h) (by have := UInt8.lt_iff_toNat_lt.1 HQ.out; omega)), if_pos HQ.out]), ((Drawn.refl w).more _).more _ |>.more _⟩
      · have hend := cmp_end a.data.toList b.data.toList k (by rw [HA.out]; exact hka) (by rw [HB.out]; exact hkb) (Or.inr (by rw [HB.out]; omega)) HST.out
        rw [HA.out, HB.out] at hend
        have HE := Lib.hid hend; clear hend
        rcases Nat.lt_trichotomy a.size b.size with t1 | t1 | t1
        all_goals
          go_wp2
        all_goals
          go_ret
          exact ⟨ret_int (by rw [HE.out]; simp [t1]; try omega), ⟨_, rfl⟩⟩
    · have hend := cmp_end a.data.toList b.data.toList k (by rw [HA.out]; exact hka) (by rw [HB.out]; exact hkb) (Or.inl (by rw [HA.out]; omega)) HST.out
      rw [HA.out, HB.out] at hend
      have HE := Lib.hid hend; clear hend
      rcases Nat.lt_trichotomy a.size b.size with t1 | t1 | t1
      all_goals
        go_wp2
      all_goals
        go_ret
        exact ⟨ret_int (by rw [HE.out]; simp [t1]; try omega), ⟨_, rfl⟩⟩
theorem rtexts_l (a b : List UInt8) (w : World) (ha : a.length ≤ 140737488351232) :
    Calls Tryz.prog 120 #[.string ⟨a.toArray⟩, .string ⟨b.toArray⟩] w fun e w' => e = .returned (.int .i64 (Lib.compareBytes a b)) ∧ Drawn w w' :=
  rtexts_any ⟨a.toArray⟩ ⟨b.toArray⟩ w (by show a.length ≤ _; unfold maxLen; omega)
set_option maxHeartbeats 400000 in
theorem rbegins_any (s p : ByteArray) (w : World) :
    Calls Tryz.prog 99 #[.string s, .string p] w fun e w' => e = .returned (.bool (Lib.hasPrefix s.data.toList p.data.toList)) ∧ Drawn w w' := by
  have hp := Lib.hasPrefix_raw s p
  by_cases h : p.size ≤ s.size
  all_goals
    have HP := Lib.hid hp; clear hp
    go_enter Tryz.func99, Tryz.ntmps99
    go_wp2
    go_ret
    exact ⟨ret_bool (by rw [← HP.out]; simp [h]), Drawn.refl _⟩
theorem rbegins_l (a b : List UInt8) (w : World) :
    Calls Tryz.prog 99 #[.string ⟨a.toArray⟩, .string ⟨b.toArray⟩] w fun e w' => e = .returned (.bool (pre a b)) ∧ Drawn w w' :=
  rbegins_any ⟨a.toArray⟩ ⟨b.toArray⟩ w
set_option maxHeartbeats 1000000 in
theorem rcompare_any (k1 n1 : Int) (x1 : Nat) (t1 : List UInt8) (y1 : Bool) (k2 n2 : Int) (x2 : Nat) (t2 : List UInt8) (y2 : Bool) (w : World) (ht : t1.length ≤ 140737488351232) :
    Calls Tryz.prog 96 #[val k1 n1 x1 t1 y1, val k2 n2 x2 t2 y2] w fun e w' =>
      e = .returned (.tuple #[.int .i64 (cmp1 ⟨k1, n1, x1, t1, y1⟩ ⟨k2, n2, x2, t2, y2⟩), .bool (cmpOk ⟨k1, n1, x1, t1, y1⟩ ⟨k2, n2, x2, t2, y2⟩)]) ∧ Below w.heap.size w w' := by
  rcases cmp_ways k1 n1 x1 t1 y1 k2 n2 x2 t2 y2 with ⟨h1, h4⟩ | ⟨h1, h2, h4⟩ | ⟨h1, h2, h3, h4⟩ | ⟨h1, h2, h3, h4⟩
  · unfold cmp1; rw [h4]; clear h4
    go_enter Tryz.func96, Tryz.ntmps96
    go_wp2
    go_ret2
    exact ⟨rfl, balloc2 _ _ _⟩
  · unfold cmp1; rw [h4]; clear h4
    go_enter Tryz.func96, Tryz.ntmps96
    go_wp2_with (go_at_call 95; refine (rvoid_any _ _ _ _ _ _).mono ?_; rintro e w1 ⟨rfl, hb⟩; obtain ⟨hc, hf⟩ := bcell hb)
    go_ret2
    exact ⟨rfl, btrans (balloc2 _ _ _) hb⟩
  · unfold cmp1; rw [h4]; clear h4
    go_enter Tryz.func96, Tryz.ntmps96
    go_wp2_with fail
    refine (rvoid_any _ _ _ _ _ _).mono ?_; rintro e w1 ⟨rfl, hb⟩; obtain ⟨hc, hf⟩ := bcell hb
    go_wp2_with fail
    refine (rvoid_any _ _ _ _ _ _).mono ?_; rintro e w2 ⟨rfl, hb2⟩
    go_wp2
    go_ret2
    exact ⟨rfl, btrans (btrans (balloc2 _ _ _) hb) hb2⟩
  · have hu : cmp1 ⟨k1, n1, x1, t1, y1⟩ ⟨k2, n2, x2, t2, y2⟩ = cmp ⟨k1, n1, x1, t1, y1⟩ ⟨k2, n2, x2, t2, y2⟩ := by unfold cmp1; rw [h4]; rfl
    have hd : cmp ⟨k1, n1, x1, t1, y1⟩ ⟨k2, n2, x2, t2, y2⟩ = if k1 == 0 then sgn (decide (n1 < n2)) (decide (n2 < n1)) else if k1 == 1 then sgn (Flt.lt x1 x2) (Flt.lt x2 x1) else if k1 == 2 then Lib.compareBytes t1 t2 else sgn (!y1 && y2) (y1 && !y2) := rfl
    rw [hu, h4]; clear h4 hu
    have HD := Lib.hid hd; clear hd
    have f1 := Ord.ford_lt x1 x2
    have f2 := Ord.ford_gt x1 x2
    go_enter Tryz.func96, Tryz.ntmps96
    go_wp2_with fail
    refine (rvoid_any _ _ _ _ _ _).mono ?_; rintro e w1 ⟨rfl, hb⟩; obtain ⟨hc, hf⟩ := bcell hb
    have hz := size2 hb
    have hz0 : w.heap.size < w1.heap.size := by omega
    go_wp2_with fail
    refine (rvoid_any _ _ _ _ _ _).mono ?_; rintro e w2 ⟨rfl, hb2⟩; obtain ⟨hc2, hf2⟩ := bcell hb2
    have hz2 : w.heap.size + 1 < w2.heap.size := Nat.lt_of_lt_of_le hz hb2.size
    have B : Hid (Below w.heap.size w w2) := Lib.hid (btrans (btrans (balloc2 _ _ _) hb) hb2)
    clear hb hb2
    cases q0 : (k1 == 0)
    · cases q1 : (k1 == 1)
      · cases q2 : (k1 == 2)
        · clear f1 f2
          cases y1 <;> cases y2
          all_goals
            go_wp2
            go_ret2
            exact ⟨by rw [HD.out, q0, q1, q2]; rfl, B.out⟩
        · clear f1 f2
          go_wp2_with (go_at_call 120; refine (rtexts_l _ _ _ ht).mono ?_; rintro e w' ⟨rfl, ⟨nd, rfl⟩⟩)
          go_ret2
          exact ⟨by rw [HD.out, q0, q1, q2]; rfl, bdrewN B.out _⟩
      · cases l1 : Flt.lt x1 x2 <;> cases l2 : Flt.lt x2 x1
        all_goals
          rw [l1] at f1
          rw [l2] at f2
          go_wp2
        all_goals
          go_ret2
          exact ⟨by rw [HD.out, q0, q1, l1, l2]; rfl, B.out⟩
    · by_cases a1 : n1 < n2
      · have hs : sgn (decide (n1 < n2)) (decide (n2 < n1)) = -1 := by simp [sgn, a1]
        have HS := Lib.hid hs; clear hs
        go_wp2
        go_ret2
        exact ⟨by rw [HD.out, q0, if_pos rfl, HS.out]; rfl, B.out⟩
      · by_cases a2 : n2 < n1
        · have hs : sgn (decide (n1 < n2)) (decide (n2 < n1)) = 1 := by simp [sgn, a1, a2]
          have HS := Lib.hid hs; clear hs
          go_wp2
          go_ret2
          exact ⟨by rw [HD.out, q0, if_pos rfl, HS.out]; rfl, B.out⟩
        · have hs : sgn (decide (n1 < n2)) (decide (n2 < n1)) = 0 := by simp [sgn, a1, a2]
          have HS := Lib.hid hs; clear hs
          go_wp2
          go_ret2
          exact ⟨by rw [HD.out, q0, if_pos rfl, HS.out]; rfl, B.out⟩
set_option maxHeartbeats 1000000 in
theorem rholds_any (nm : List UInt8) (op k1 n1 : Int) (x1 : Nat) (t1 : List UInt8) (y1 : Bool) (k2 n2 : Int) (x2 : Nat) (t2 : List UInt8) (y2 : Bool) (w : World) (ht : t2.length ≤ 140737488351232) :
    Calls Tryz.prog 97 #[cond nm op k1 n1 x1 t1 y1, val k2 n2 x2 t2 y2] w fun e w' =>
      e = .returned (.bool (holdsB ⟨nm, op, ⟨k1, n1, x1, t1, y1⟩⟩ ⟨k2, n2, x2, t2, y2⟩)) ∧ Below w.heap.size w w' := by
  have hd : holdsB ⟨nm, op, ⟨k1, n1, x1, t1, y1⟩⟩ ⟨k2, n2, x2, t2, y2⟩ = (if op == 7 then true
    else if op == 6 then cmpOk ⟨k2, n2, x2, t2, y2⟩ ⟨k1, n1, x1, t1, y1⟩ && k2 == 2 && Lib.hasPrefix t2 t1
    else if op == 0 then cmpOk ⟨k2, n2, x2, t2, y2⟩ ⟨k1, n1, x1, t1, y1⟩ && cmp1 ⟨k2, n2, x2, t2, y2⟩ ⟨k1, n1, x1, t1, y1⟩ == 0
    else if op == 1 then cmpOk ⟨k2, n2, x2, t2, y2⟩ ⟨k1, n1, x1, t1, y1⟩ && cmp1 ⟨k2, n2, x2, t2, y2⟩ ⟨k1, n1, x1, t1, y1⟩ != 0
    else if op == 2 then cmpOk ⟨k2, n2, x2, t2, y2⟩ ⟨k1, n1, x1, t1, y1⟩ && decide (cmp1 ⟨k2, n2, x2, t2, y2⟩ ⟨k1, n1, x1, t1, y1⟩ < 0)
    else if op == 3 then cmpOk ⟨k2, n2, x2, t2, y2⟩ ⟨k1, n1, x1, t1, y1⟩ && decide (cmp1 ⟨k2, n2, x2, t2, y2⟩ ⟨k1, n1, x1, t1, y1⟩ ≤ 0)
    else if op == 4 then cmpOk ⟨k2, n2, x2, t2, y2⟩ ⟨k1, n1, x1, t1, y1⟩ && decide (0 < cmp1 ⟨k2, n2, x2, t2, y2⟩ ⟨k1, n1, x1, t1, y1⟩)
    else if op == 5 then cmpOk ⟨k2, n2, x2, t2, y2⟩ ⟨k1, n1, x1, t1, y1⟩ && decide (0 ≤ cmp1 ⟨k2, n2, x2, t2, y2⟩ ⟨k1, n1, x1, t1, y1⟩)
    else false) := rfl
  have hcmp (w : World) := rcompare_any k2 n2 x2 t2 y2 k1 n1 x1 t1 y1 w ht
  generalize holdsB ⟨nm, op, ⟨k1, n1, x1, t1, y1⟩⟩ ⟨k2, n2, x2, t2, y2⟩ = R at *
  generalize cmpOk ⟨k2, n2, x2, t2, y2⟩ ⟨k1, n1, x1, t1, y1⟩ = ok at *
  generalize cmp1 ⟨k2, n2, x2, t2, y2⟩ ⟨k1, n1, x1, t1, y1⟩ = c at *
  have HD := Lib.hid hd; have HC := Lib.hid hcmp; clear hd hcmp
  rcases op_ways op with h7 | ⟨h7, h6⟩ | ⟨h7, h6, h0⟩ | ⟨h7, h6, h0, h1⟩ | ⟨h7, h6, h0, h1, h2⟩ | ⟨h7, h6, h0, h1, h2, h3⟩ | ⟨h7, h6, h0, h1, h2, h3, h4⟩ | ⟨h7, h6, h0, h1, h2, h3, h4, h5⟩ | ⟨h7, h6, h0, h1, h2, h3, h4, h5⟩
  · go_enter Tryz.func97, Tryz.ntmps97
    go_wp2
    go_ret
    exact ⟨ret_bool (by rw [HD.out, h7]; rfl), balloc2 _ _ _⟩
  · obtain rfl : op = 6 := by simpa using h6
    clear h7 h6
    cases ok
    · go_enter Tryz.func97, Tryz.ntmps97
      go_wp2_with (go_at_call 96; refine (HC.out _).mono ?_; rintro e w1 ⟨rfl, hb⟩; obtain ⟨hc, hf⟩ := bcell hb)
      go_ret
      exact ⟨ret_bool (by rw [HD.out]; rfl), btrans (balloc2 _ _ _) hb⟩
    · cases hk : (k2 == 2)
      all_goals
        go_enter Tryz.func97, Tryz.ntmps97
        go_wp2_with (first | (go_at_call 96; refine (HC.out _).mono ?_; rintro e w1 ⟨rfl, hb⟩; obtain ⟨hc, hf⟩ := bcell hb) | (go_at_call 99; refine (rbegins_l _ _ _).mono ?_; rintro e w' ⟨rfl, ⟨nd, rfl⟩⟩))
      all_goals
        go_ret
        exact ⟨ret_bool (by rw [HD.out, hk]; rfl), by first | exact btrans (balloc2 _ _ _) hb | exact bdrewN (btrans (balloc2 _ _ _) hb) _⟩
  all_goals
    cases ok
    all_goals
      go_enter Tryz.func97, Tryz.ntmps97
      go_wp2_with (go_at_call 96; refine (HC.out _).mono ?_; rintro e w1 ⟨rfl, hb⟩; obtain ⟨hc, hf⟩ := bcell hb)
    all_goals
      go_ret
      exact ⟨ret_bool (by rw [HD.out]; simp [*]), btrans (balloc2 _ _ _) hb⟩
end Go.Proofs.YtceplbanfpnhbaaGreatDoor.Val
end

section
/- THE WALKS OF the document's answers for package filter: Under, Match. -/
namespace Go.Proofs.YtceplbanfpnhbaaGreatDoor.Val
open Go.RowKit Flt
attribute [local go_sem] run_store_flt
set_option maxHeartbeats 400000 in
theorem runder_any (a b : List UInt8) (w : World) (hs : a.length ≤ 140737488351232) (ht : b.length ≤ 140737488351232) :
    Calls Tryz.prog 61 #[.string ⟨a.toArray⟩, .string ⟨b.toArray⟩] w fun e w' => e = .returned (.bool (Sc.underB a b)) ∧ w = w' := by
  rcases Sc.under_cases a b with h0 | ⟨h0, rfl⟩ | ⟨h0, h1, h2, h3⟩ | ⟨x, r, h0, rfl, h1, h2, h3⟩
  · go_enter Tryz.func61, Tryz.ntmps61
    go_wp2
    go_ret
    exact ⟨ret_bool (by unfold Sc.underB; rw [h0]; rfl), rfl⟩
  · go_enter Tryz.func61, Tryz.ntmps61
    go_wp2
    go_ret
    exact ⟨ret_bool (by unfold Sc.underB; simp), rfl⟩
  · have hp := Lib.hasPrefix_raw ⟨a.toArray⟩ ⟨b.toArray⟩
    have h1' : ¬ a = b := by simpa using h1
    have h2' : Lib.hasPrefix (⟨a.toArray⟩ : ByteArray).data.toList (⟨b.toArray⟩ : ByteArray).data.toList = false := h2
    rw [h2'] at hp
    rw [h3]
    clear h3 h2 h2'
    by_cases hlt : b.length < a.length
    · have hx : ¬ ((⟨a.toArray⟩ : ByteArray).extract 0 b.length).toList = b := by
        intro e
        have e1 : (⟨b.toArray⟩ : ByteArray).size = b.length := by simp [ByteArray.size]
        have e2 : (⟨a.toArray⟩ : ByteArray).size = a.length := by simp [ByteArray.size]
        have e3 : (⟨b.toArray⟩ : ByteArray).toList = b := by rw [Lib.toList_data]
        rw [e1, e2, e3, e] at hp
        simp at hp
        omega
      clear hp
      go_enter Tryz.func61, Tryz.ntmps61
      go_wp2
      go_ret
      exact ⟨rfl, rfl⟩
    · clear hp
      go_enter Tryz.func61, Tryz.ntmps61
      go_wp2
      go_ret
      exact ⟨rfl, rfl⟩
  · have h1' : ¬ b ++ x :: r = b := by simp
    have hl : b.length < (b ++ x :: r).length := by simp
    have hx : ((⟨(b ++ x :: r).toArray⟩ : ByteArray)[b.length]'hl) = x := by
      show (b ++ x :: r).toArray[b.length] = x
      simp
    have he : ((⟨(b ++ x :: r).toArray⟩ : ByteArray).extract 0 b.length).toList = b := by
      have hp := Lib.hasPrefix_raw ⟨(b ++ x :: r).toArray⟩ ⟨b.toArray⟩
      have h2' : Lib.hasPrefix (⟨(b ++ x :: r).toArray⟩ : ByteArray).data.toList (⟨b.toArray⟩ : ByteArray).data.toList = true := h2
      have e1 : (⟨b.toArray⟩ : ByteArray).size = b.length := by simp [ByteArray.size]
      have e3 : (⟨b.toArray⟩ : ByteArray).toList = b := by rw [Lib.toList_data]
      rw [h2', e1, e3] at hp
      simp only [Bool.and_eq_true, beq_iff_eq] at hp
      exact hp.2
    have h47 := Sc.beq47 x
    rw [h3]; clear h3 h2
    have HX := Lib.hid hx; have H47 := Lib.hid h47; clear hx h47
    go_enter Tryz.func61, Tryz.ntmps61
    go_wp2
    all_goals first | (exfalso; omega) | (go_ret; exact ⟨ret_bool (by rw [HX.out, H47.out]), rfl⟩)
end Go.Proofs.YtceplbanfpnhbaaGreatDoor.Val
end

section
/- THE WALK OF the document's Void. -/
namespace Go.Proofs.YtceplbanfpnhbaaGreatDoor.Val
open Go.RowKit Flt
set_option maxHeartbeats 400000 in
theorem rcvoid_any (nm : List UInt8) (op k n : Int) (x : Nat) (t : List UInt8) (y : Bool) (w : World) :
    Calls Tryz.prog 59 #[cond nm op k n x t y] w fun e w' => e = .returned (.bool (cvoidB ⟨nm, op, k, n, x, t, y⟩)) ∧ Below w.heap.size w w' := by
  have hr : cvoidB ⟨nm, op, k, n, x, t, y⟩ = ((op != 7 && voidB ⟨k, n, x, t, y⟩) || (op == 6 && k != 2)) := rfl
  have hv (w : World) := rvoid_any k n x t y w
  generalize voidB ⟨k, n, x, t, y⟩ = vb at *
  have HR := Lib.hid hr; have HV := Lib.hid hv; clear hr hv
  by_cases h7 : op = 7
  · subst h7
    go_enter Tryz.func59, Tryz.ntmps59
    go_wp2
    go_ret
    exact ⟨ret_bool (by rw [HR.out]; simp [*]), balloc _ _⟩
  by_cases h6 : op = 6
  · subst h6
    clear h7
    cases vb
    all_goals
      go_enter Tryz.func59, Tryz.ntmps59
      go_wp2_with (go_at_call 95; refine (HV.out _).mono ?_; rintro e w1 ⟨rfl, hb⟩; obtain ⟨hc, hf⟩ := bcell hb)
      go_ret
      exact ⟨ret_bool (by rw [HR.out]; simp [*]), btrans (balloc _ _) hb⟩
  cases vb
  all_goals
    go_enter Tryz.func59, Tryz.ntmps59
    go_wp2_with (go_at_call 95; refine (HV.out _).mono ?_; rintro e w1 ⟨rfl, hb⟩; obtain ⟨hc, hf⟩ := bcell hb)
    go_ret
    exact ⟨ret_bool (by rw [HR.out]; simp [*]), btrans (balloc _ _) hb⟩
end Go.Proofs.YtceplbanfpnhbaaGreatDoor.Val
end

section
/- THE WALKS OF THE DOCUMENT's side AND Implies. -/
namespace Go.Proofs.YtceplbanfpnhbaaGreatDoor.Val
open Go.RowKit Flt
set_option maxRecDepth 20000 in
set_option maxHeartbeats 4000000 in
theorem rlow_any (nm1 : List UInt8) (op1 k1 n1 : Int) (x1 : Nat) (t1 : List UInt8) (y1 : Bool) (nm2 : List UInt8) (op2 k2 n2 : Int) (x2 : Nat) (t2 : List UInt8) (y2 : Bool) (w : World)
    (ht : t1.length ≤ 140737488351232) (ho : op1 = 2 ∨ op1 = 3) :
    Calls Tryz.prog 98 #[.bool true, .int .i64 2, .int .i64 3, cond nm1 op1 k1 n1 x1 t1 y1, cond nm2 op2 k2 n2 x2 t2 y2] w fun e w' => e = .returned (.bool (lowB (cmp1 ⟨k1, n1, x1, t1, y1⟩ ⟨k2, n2, x2, t2, y2⟩) op1 op2)) ∧ Below w.heap.size w w' := by
  have hcm (w : World) := rcompare_any k1 n1 x1 t1 y1 k2 n2 x2 t2 y2 w ht
  have HCM := Lib.hid hcm; clear hcm ht
  generalize cmpOk ⟨k1, n1, x1, t1, y1⟩ ⟨k2, n2, x2, t2, y2⟩ = ok at *
  generalize cmp1 ⟨k1, n1, x1, t1, y1⟩ ⟨k2, n2, x2, t2, y2⟩ = c at *
  rcases ho with rfl | rfl
  all_goals
    rcases low_ways op2 2 3 (by decide) (by decide) (by decide) with ⟨o1, o2, o3⟩ | ⟨o1, o2, o3⟩ | ⟨o1, o2, o3⟩ | ⟨o1, o2, o3⟩ <;> rcases cmp3_ways c with ⟨q1, q2, q3⟩ | ⟨q1, q2, q3⟩ | ⟨q1, q2, q3⟩
    all_goals
      go_enter Tryz.func98, Tryz.ntmps98
      go_wp2_with (first | (go_at_call 96; refine (HCM.out _).mono ?_; rintro e w2 ⟨rfl, hb2⟩; (first | (replace hb1 := btrans hb1 hb2; clear hb2 hc1 hf1; obtain ⟨hc1, hf1⟩ := bcell hb1) | (have hb1 := hb2; clear hb2; obtain ⟨hc1, hf1⟩ := bcell hb1))) | fail)
      go_ret
      exact ⟨ret_bool (by unfold lowB; rw [o1, o2, o3, q1, q2]; rfl), by repeat (first | assumption | (with_reducible exact Below.refl _ _) | exact balloc _ _ | exact balloc2 _ _ _ | refine btrans ?_ (by assumption) | refine btrans ?_ (balloc _ _))⟩
theorem cmp_range (a b : V) : -1 ≤ cmp1 a b ∧ cmp1 a b ≤ 1 := by
  have hs : ∀ l m, -1 ≤ sgn l m ∧ sgn l m ≤ 1 := fun l m => by unfold sgn; cases l <;> cases m <;> decide
  have hc : ∀ s t : List UInt8, -1 ≤ Lib.compareBytes s t ∧ Lib.compareBytes s t ≤ 1 := by
    intro s
    induction s with
    | nil => intro t; cases t <;> simp [Lib.compareBytes]
    | cons c s ih =>
      intro t
      cases t with
      | nil => simp [Lib.compareBytes]
      | cons d t =>
        unfold Lib.compareBytes
        split
        · decide
        · split
          · decide
          · exact ih t
  unfold cmp1 cmp
  split
  · split
    · exact hs _ _
    · split
      · exact hs _ _
      · split
        · exact hc _ _
        · exact hs _ _
  · decide
set_option maxRecDepth 20000 in
set_option maxHeartbeats 4000000 in
theorem rupp_any (nm1 : List UInt8) (op1 k1 n1 : Int) (x1 : Nat) (t1 : List UInt8) (y1 : Bool) (nm2 : List UInt8) (op2 k2 n2 : Int) (x2 : Nat) (t2 : List UInt8) (y2 : Bool) (w : World)
    (ht : t1.length ≤ 140737488351232) (ho : op1 = 4 ∨ op1 = 5) :
    Calls Tryz.prog 98 #[.bool false, .int .i64 4, .int .i64 5, cond nm1 op1 k1 n1 x1 t1 y1, cond nm2 op2 k2 n2 x2 t2 y2] w fun e w' => e = .returned (.bool (uppB (cmp1 ⟨k1, n1, x1, t1, y1⟩ ⟨k2, n2, x2, t2, y2⟩) op1 op2)) ∧ Below w.heap.size w w' := by
  have hcm (w : World) := rcompare_any k1 n1 x1 t1 y1 k2 n2 x2 t2 y2 w ht
  have hrg := cmp_range ⟨k1, n1, x1, t1, y1⟩ ⟨k2, n2, x2, t2, y2⟩
  have HCM := Lib.hid hcm; clear hcm ht
  generalize cmpOk ⟨k1, n1, x1, t1, y1⟩ ⟨k2, n2, x2, t2, y2⟩ = ok at *
  generalize cmp1 ⟨k1, n1, x1, t1, y1⟩ ⟨k2, n2, x2, t2, y2⟩ = c at *
  have hc : c = -1 ∨ c = 0 ∨ c = 1 := by omega
  clear hrg
  rcases ho with rfl | rfl
  all_goals
    rcases low_ways op2 4 5 (by decide) (by decide) (by decide) with ⟨o1, o2, o3⟩ | ⟨o1, o2, o3⟩ | ⟨o1, o2, o3⟩ | ⟨o1, o2, o3⟩ <;> rcases hc with rfl | rfl | rfl
    all_goals
      go_enter Tryz.func98, Tryz.ntmps98
      go_wp2_with (first | (go_at_call 96; refine (HCM.out _).mono ?_; rintro e w2 ⟨rfl, hb2⟩; (first | (replace hb1 := btrans hb1 hb2; clear hb2 hc1 hf1; obtain ⟨hc1, hf1⟩ := bcell hb1) | (have hb1 := hb2; clear hb2; obtain ⟨hc1, hf1⟩ := bcell hb1))) | fail)
      go_ret
      exact ⟨ret_bool (by unfold uppB; rw [o1, o2, o3]; rfl), by repeat (first | assumption | (with_reducible exact Below.refl _ _) | exact balloc _ _ | exact balloc2 _ _ _ | refine btrans ?_ (by assumption) | refine btrans ?_ (balloc _ _))⟩
end Go.Proofs.YtceplbanfpnhbaaGreatDoor.Val
end

section
/- THE WALK OF THE DOCUMENT's Implies. -/
namespace Go.Proofs.YtceplbanfpnhbaaGreatDoor.Val
open Go.RowKit Flt
set_option maxRecDepth 20000 in
set_option maxHeartbeats 4000000 in
theorem rimplies_any (nm1 : List UInt8) (op1 k1 n1 : Int) (x1 : Nat) (t1 : List UInt8) (y1 : Bool) (nm2 : List UInt8) (op2 k2 n2 : Int) (x2 : Nat) (t2 : List UInt8) (y2 : Bool) (w : World)
    (a0 : 0 ≤ op1) (a7 : op1 ≤ 7) (ht : t1.length ≤ 140737488351232) :
    Calls Tryz.prog 60 #[cond nm1 op1 k1 n1 x1 t1 y1, cond nm2 op2 k2 n2 x2 t2 y2] w fun e w' => e = .returned (.bool (impliesB ⟨nm1, op1, k1, n1, x1, t1, y1⟩ ⟨nm2, op2, k2, n2, x2, t2, y2⟩)) ∧ Below w.heap.size w w' := by
  have hr : impliesB ⟨nm1, op1, k1, n1, x1, t1, y1⟩ ⟨nm2, op2, k2, n2, x2, t2, y2⟩ = (if !(nm1 == nm2) then false else if cvoidB ⟨nm1, op1, k1, n1, x1, t1, y1⟩ || op2 == 7 then true else if op1 == 7 || cvoidB ⟨nm2, op2, k2, n2, x2, t2, y2⟩ || k1 != k2 then false
    else if op1 == 0 then holdsB ⟨nm2, op2, k2, n2, x2, t2, y2⟩ ⟨k1, n1, x1, t1, y1⟩ else if op1 == 1 then op2 == 1 && cmp1 ⟨k1, n1, x1, t1, y1⟩ ⟨k2, n2, x2, t2, y2⟩ == 0
    else if op1 == 6 then (op2 == 6 && pre t1 t2) || (op2 == 1 && !pre t2 t1)
    else if op1 == 2 || op1 == 3 then lowB (cmp1 ⟨k1, n1, x1, t1, y1⟩ ⟨k2, n2, x2, t2, y2⟩) op1 op2 else uppB (cmp1 ⟨k1, n1, x1, t1, y1⟩ ⟨k2, n2, x2, t2, y2⟩) op1 op2) := rfl
  have hsc : cvoidB ⟨nm1, op1, k1, n1, x1, t1, y1⟩ = false → cvoidB ⟨nm2, op2, k2, n2, x2, t2, y2⟩ = false → op1 ≠ 7 → op2 ≠ 7 → k1 = k2 → cmpOk ⟨k1, n1, x1, t1, y1⟩ ⟨k2, n2, x2, t2, y2⟩ = true :=
    fun h1 h2 h3 h4 h5 => cmpOk_of h5 (cvoid_at h1 h3) (cvoid_at h2 h4)
  have hlo (ho : op1 = 2 ∨ op1 = 3) (w : World) := rlow_any nm1 op1 k1 n1 x1 t1 y1 nm2 op2 k2 n2 x2 t2 y2 w ht ho
  have hup (ho : op1 = 4 ∨ op1 = 5) (w : World) := rupp_any nm1 op1 k1 n1 x1 t1 y1 nm2 op2 k2 n2 x2 t2 y2 w ht ho
  have hho (w : World) := rholds_any nm2 op2 k2 n2 x2 t2 y2 k1 n1 x1 t1 y1 w ht
  have hcm (w : World) := rcompare_any k1 n1 x1 t1 y1 k2 n2 x2 t2 y2 w ht
  clear ht
  have ep : pre t1 t2 = pre t1 t2 := rfl
  have eq : pre t2 t1 = pre t2 t1 := rfl
  have ea : cvoidB ⟨nm1, op1, k1, n1, x1, t1, y1⟩ = cvoidB ⟨nm1, op1, k1, n1, x1, t1, y1⟩ := rfl
  have eb : cvoidB ⟨nm2, op2, k2, n2, x2, t2, y2⟩ = cvoidB ⟨nm2, op2, k2, n2, x2, t2, y2⟩ := rfl
  generalize impliesB ⟨nm1, op1, k1, n1, x1, t1, y1⟩ ⟨nm2, op2, k2, n2, x2, t2, y2⟩ = R at *
  generalize holdsB ⟨nm2, op2, k2, n2, x2, t2, y2⟩ ⟨k1, n1, x1, t1, y1⟩ = hv at *
  generalize cmpOk ⟨k1, n1, x1, t1, y1⟩ ⟨k2, n2, x2, t2, y2⟩ = ok at *
  generalize cmp1 ⟨k1, n1, x1, t1, y1⟩ ⟨k2, n2, x2, t2, y2⟩ = c at *
  clear ep eq
  generalize ep : pre t1 t2 = p1 at hr
  generalize eq : pre t2 t1 = p2 at hr
  generalize hva : cvoidB ⟨nm1, op1, k1, n1, x1, t1, y1⟩ = va at hr hsc
  generalize hvb : cvoidB ⟨nm2, op2, k2, n2, x2, t2, y2⟩ = vb at hr hsc
  clear ea eb
  have EA := Lib.hid hva; have EB := Lib.hid hvb; have EP := Lib.hid ep; have EQ := Lib.hid eq
  have HHO := Lib.hid hho; have HLO := Lib.hid hlo; have HUP := Lib.hid hup; have HCM := Lib.hid hcm; have HR := Lib.hid hr; have HSC := Lib.hid hsc
  clear hva hvb ep eq hho hlo hup hcm hr hsc
  cases hn : (nm1 == nm2)
  · go_enter Tryz.func60, Tryz.ntmps60
    go_wp2
    go_ret
    exact ⟨ret_bool (by rw [HR.out, hn]; rfl), by repeat (first | assumption | (with_reducible exact Below.refl _ _) | exact balloc _ _ | exact balloc2 _ _ _ | refine btrans ?_ (by assumption) | refine btrans ?_ (balloc _ _))⟩
  cases va
  rotate_left
  · go_enter Tryz.func60, Tryz.ntmps60
    go_wp2_with (first | (go_at_call 59; refine (rcvoid_any _ _ _ _ _ _ _ _).mono ?_; rintro e w2 ⟨rfl, hb2⟩; (first | rw [EA.out] | rw [EB.out]); (first | (replace hb1 := btrans hb1 hb2; clear hb2 hc1 hf1; obtain ⟨hc1, hf1⟩ := bcell hb1) | (have hb1 := hb2; clear hb2; obtain ⟨hc1, hf1⟩ := bcell hb1))) | fail)
    go_ret
    exact ⟨ret_bool (by rw [HR.out, hn]; rfl), by repeat (first | assumption | (with_reducible exact Below.refl _ _) | exact balloc _ _ | exact balloc2 _ _ _ | refine btrans ?_ (by assumption) | refine btrans ?_ (balloc _ _))⟩
  cases b7 : (op2 == 7)
  rotate_left
  · go_enter Tryz.func60, Tryz.ntmps60
    go_wp2_with (first | (go_at_call 59; refine (rcvoid_any _ _ _ _ _ _ _ _).mono ?_; rintro e w2 ⟨rfl, hb2⟩; (first | rw [EA.out] | rw [EB.out]); (first | (replace hb1 := btrans hb1 hb2; clear hb2 hc1 hf1; obtain ⟨hc1, hf1⟩ := bcell hb1) | (have hb1 := hb2; clear hb2; obtain ⟨hc1, hf1⟩ := bcell hb1))) | fail)
    go_ret
    exact ⟨ret_bool (by rw [HR.out, hn, b7]; rfl), by repeat (first | assumption | (with_reducible exact Below.refl _ _) | exact balloc _ _ | exact balloc2 _ _ _ | refine btrans ?_ (by assumption) | refine btrans ?_ (balloc _ _))⟩
  by_cases h7 : op1 = 7
  · subst h7
    go_enter Tryz.func60, Tryz.ntmps60
    go_wp2_with (first | (go_at_call 59; refine (rcvoid_any _ _ _ _ _ _ _ _).mono ?_; rintro e w2 ⟨rfl, hb2⟩; (first | rw [EA.out] | rw [EB.out]); (first | (replace hb1 := btrans hb1 hb2; clear hb2 hc1 hf1; obtain ⟨hc1, hf1⟩ := bcell hb1) | (have hb1 := hb2; clear hb2; obtain ⟨hc1, hf1⟩ := bcell hb1))) | fail)
    go_ret
    exact ⟨ret_bool (by rw [HR.out, hn, b7]; rfl), by repeat (first | assumption | (with_reducible exact Below.refl _ _) | exact balloc _ _ | exact balloc2 _ _ _ | refine btrans ?_ (by assumption) | refine btrans ?_ (balloc _ _))⟩
  have g7 : (op1 == 7) = false := by simpa using h7
  cases vb
  rotate_left
  · go_enter Tryz.func60, Tryz.ntmps60
    go_wp2_with (first | (go_at_call 59; refine (rcvoid_any _ _ _ _ _ _ _ _).mono ?_; rintro e w2 ⟨rfl, hb2⟩; (first | rw [EA.out] | rw [EB.out]); (first | (replace hb1 := btrans hb1 hb2; clear hb2 hc1 hf1; obtain ⟨hc1, hf1⟩ := bcell hb1) | (have hb1 := hb2; clear hb2; obtain ⟨hc1, hf1⟩ := bcell hb1))) | fail)
    go_ret
    exact ⟨ret_bool (by rw [HR.out, hn, b7, g7]; rfl), by repeat (first | assumption | (with_reducible exact Below.refl _ _) | exact balloc _ _ | exact balloc2 _ _ _ | refine btrans ?_ (by assumption) | refine btrans ?_ (balloc _ _))⟩
  cases hk : (k1 != k2)
  rotate_left
  · go_enter Tryz.func60, Tryz.ntmps60
    go_wp2_with (first | (go_at_call 59; refine (rcvoid_any _ _ _ _ _ _ _ _).mono ?_; rintro e w2 ⟨rfl, hb2⟩; (first | rw [EA.out] | rw [EB.out]); (first | (replace hb1 := btrans hb1 hb2; clear hb2 hc1 hf1; obtain ⟨hc1, hf1⟩ := bcell hb1) | (have hb1 := hb2; clear hb2; obtain ⟨hc1, hf1⟩ := bcell hb1))) | fail)
    go_ret
    exact ⟨ret_bool (by rw [HR.out, hn, b7, g7, hk]; rfl), by repeat (first | assumption | (with_reducible exact Below.refl _ _) | exact balloc _ _ | exact balloc2 _ _ _ | refine btrans ?_ (by assumption) | refine btrans ?_ (balloc _ _))⟩
  have hok : ok = true := HSC.out rfl rfl h7 (by simpa using b7) (by simpa using hk)
  subst hok
  have hr1 := HR.out
  rw [hn, b7, g7, hk] at hr1
  simp only [Bool.false_eq_true, if_false, Bool.or_self] at hr1
  clear HR HSC
  rcases eight a0 a7 h7 with rfl | rfl | rfl | rfl | rfl | rfl | rfl
  all_goals clear g7 h7 a0 a7
  · have HR : Hid (R = hv) := Lib.hid hr1
    clear hr1 HLO HUP
    go_enter Tryz.func60, Tryz.ntmps60
    go_wp2_with (first | (go_at_call 59; refine (rcvoid_any _ _ _ _ _ _ _ _).mono ?_; rintro e w2 ⟨rfl, hb2⟩; (first | rw [EA.out] | rw [EB.out]); (first | (replace hb1 := btrans hb1 hb2; clear hb2 hc1 hf1; obtain ⟨hc1, hf1⟩ := bcell hb1) | (have hb1 := hb2; clear hb2; obtain ⟨hc1, hf1⟩ := bcell hb1))) | (go_at_call 96; refine (HCM.out _).mono ?_; rintro e w2 ⟨rfl, hb2⟩; (first | (replace hb1 := btrans hb1 hb2; clear hb2 hc1 hf1; obtain ⟨hc1, hf1⟩ := bcell hb1) | (have hb1 := hb2; clear hb2; obtain ⟨hc1, hf1⟩ := bcell hb1))) | (go_at_call 97; refine (HHO.out _).mono ?_; rintro e w2 ⟨rfl, hb2⟩; (first | (replace hb1 := btrans hb1 hb2; clear hb2 hc1 hf1; obtain ⟨hc1, hf1⟩ := bcell hb1) | (have hb1 := hb2; clear hb2; obtain ⟨hc1, hf1⟩ := bcell hb1))) | fail)
    go_ret
    exact ⟨ret_bool HR.out.symm, by repeat (first | assumption | (with_reducible exact Below.refl _ _) | exact balloc _ _ | exact balloc2 _ _ _ | refine btrans ?_ (by assumption) | refine btrans ?_ (balloc _ _))⟩
  · have HR : Hid (R = (op2 == 1 && c == 0)) := Lib.hid hr1
    clear hr1 HLO HUP
    cases o1 : (op2 == 1)
    all_goals
      go_enter Tryz.func60, Tryz.ntmps60
      go_wp2_with (first | (go_at_call 59; refine (rcvoid_any _ _ _ _ _ _ _ _).mono ?_; rintro e w2 ⟨rfl, hb2⟩; (first | rw [EA.out] | rw [EB.out]); (first | (replace hb1 := btrans hb1 hb2; clear hb2 hc1 hf1; obtain ⟨hc1, hf1⟩ := bcell hb1) | (have hb1 := hb2; clear hb2; obtain ⟨hc1, hf1⟩ := bcell hb1))) | (go_at_call 96; refine (HCM.out _).mono ?_; rintro e w2 ⟨rfl, hb2⟩; (first | (replace hb1 := btrans hb1 hb2; clear hb2 hc1 hf1; obtain ⟨hc1, hf1⟩ := bcell hb1) | (have hb1 := hb2; clear hb2; obtain ⟨hc1, hf1⟩ := bcell hb1))) | fail)
      go_ret
      exact ⟨ret_bool (by rw [HR.out, o1]; rfl), by repeat (first | assumption | (with_reducible exact Below.refl _ _) | exact balloc _ _ | exact balloc2 _ _ _ | refine btrans ?_ (by assumption) | refine btrans ?_ (balloc _ _))⟩
  · have HR : Hid (R = lowB c 2 op2) := Lib.hid hr1
    have HSI := Lib.hid (HLO.out (Or.inl rfl))
    clear hr1 HLO HUP
    go_enter Tryz.func60, Tryz.ntmps60
    go_wp2_with (first | (go_at_call 59; refine (rcvoid_any _ _ _ _ _ _ _ _).mono ?_; rintro e w2 ⟨rfl, hb2⟩; (first | rw [EA.out] | rw [EB.out]); (first | (replace hb1 := btrans hb1 hb2; clear hb2 hc1 hf1; obtain ⟨hc1, hf1⟩ := bcell hb1) | (have hb1 := hb2; clear hb2; obtain ⟨hc1, hf1⟩ := bcell hb1))) | (go_at_call 96; refine (HCM.out _).mono ?_; rintro e w2 ⟨rfl, hb2⟩; (first | (replace hb1 := btrans hb1 hb2; clear hb2 hc1 hf1; obtain ⟨hc1, hf1⟩ := bcell hb1) | (have hb1 := hb2; clear hb2; obtain ⟨hc1, hf1⟩ := bcell hb1))) | (go_at_call 98; refine (HSI.out _).mono ?_; rintro e w2 ⟨rfl, hb2⟩; (first | (replace hb1 := btrans hb1 hb2; clear hb2 hc1 hf1; obtain ⟨hc1, hf1⟩ := bcell hb1) | (have hb1 := hb2; clear hb2; obtain ⟨hc1, hf1⟩ := bcell hb1))) | fail)
    go_ret
    exact ⟨ret_bool HR.out.symm, by repeat (first | assumption | (with_reducible exact Below.refl _ _) | exact balloc _ _ | exact balloc2 _ _ _ | refine btrans ?_ (by assumption) | refine btrans ?_ (balloc _ _))⟩
  · have HR : Hid (R = lowB c 3 op2) := Lib.hid hr1
    have HSI := Lib.hid (HLO.out (Or.inr rfl))
    clear hr1 HLO HUP
    go_enter Tryz.func60, Tryz.ntmps60
    go_wp2_with (first | (go_at_call 59; refine (rcvoid_any _ _ _ _ _ _ _ _).mono ?_; rintro e w2 ⟨rfl, hb2⟩; (first | rw [EA.out] | rw [EB.out]); (first | (replace hb1 := btrans hb1 hb2; clear hb2 hc1 hf1; obtain ⟨hc1, hf1⟩ := bcell hb1) | (have hb1 := hb2; clear hb2; obtain ⟨hc1, hf1⟩ := bcell hb1))) | (go_at_call 96; refine (HCM.out _).mono ?_; rintro e w2 ⟨rfl, hb2⟩; (first | (replace hb1 := btrans hb1 hb2; clear hb2 hc1 hf1; obtain ⟨hc1, hf1⟩ := bcell hb1) | (have hb1 := hb2; clear hb2; obtain ⟨hc1, hf1⟩ := bcell hb1))) | (go_at_call 98; refine (HSI.out _).mono ?_; rintro e w2 ⟨rfl, hb2⟩; (first | (replace hb1 := btrans hb1 hb2; clear hb2 hc1 hf1; obtain ⟨hc1, hf1⟩ := bcell hb1) | (have hb1 := hb2; clear hb2; obtain ⟨hc1, hf1⟩ := bcell hb1))) | fail)
    go_ret
    exact ⟨ret_bool HR.out.symm, by repeat (first | assumption | (with_reducible exact Below.refl _ _) | exact balloc _ _ | exact balloc2 _ _ _ | refine btrans ?_ (by assumption) | refine btrans ?_ (balloc _ _))⟩
  · have HR : Hid (R = uppB c 4 op2) := Lib.hid hr1
    have HSI := Lib.hid (HUP.out (Or.inl rfl))
    clear hr1 HLO HUP
    go_enter Tryz.func60, Tryz.ntmps60
    go_wp2_with (first | (go_at_call 59; refine (rcvoid_any _ _ _ _ _ _ _ _).mono ?_; rintro e w2 ⟨rfl, hb2⟩; (first | rw [EA.out] | rw [EB.out]); (first | (replace hb1 := btrans hb1 hb2; clear hb2 hc1 hf1; obtain ⟨hc1, hf1⟩ := bcell hb1) | (have hb1 := hb2; clear hb2; obtain ⟨hc1, hf1⟩ := bcell hb1))) | (go_at_call 96; refine (HCM.out _).mono ?_; rintro e w2 ⟨rfl, hb2⟩; (first | (replace hb1 := btrans hb1 hb2; clear hb2 hc1 hf1; obtain ⟨hc1, hf1⟩ := bcell hb1) | (have hb1 := hb2; clear hb2; obtain ⟨hc1, hf1⟩ := bcell hb1))) | (go_at_call 98; refine (HSI.out _).mono ?_; rintro e w2 ⟨rfl, hb2⟩; (first | (replace hb1 := btrans hb1 hb2; clear hb2 hc1 hf1; obtain ⟨hc1, hf1⟩ := bcell hb1) | (have hb1 := hb2; clear hb2; obtain ⟨hc1, hf1⟩ := bcell hb1))) | fail)
    go_ret
    exact ⟨ret_bool HR.out.symm, by repeat (first | assumption | (with_reducible exact Below.refl _ _) | exact balloc _ _ | exact balloc2 _ _ _ | refine btrans ?_ (by assumption) | refine btrans ?_ (balloc _ _))⟩
  · have HR : Hid (R = uppB c 5 op2) := Lib.hid hr1
    have HSI := Lib.hid (HUP.out (Or.inr rfl))
    clear hr1 HLO HUP
    go_enter Tryz.func60, Tryz.ntmps60
    go_wp2_with (first | (go_at_call 59; refine (rcvoid_any _ _ _ _ _ _ _ _).mono ?_; rintro e w2 ⟨rfl, hb2⟩; (first | rw [EA.out] | rw [EB.out]); (first | (replace hb1 := btrans hb1 hb2; clear hb2 hc1 hf1; obtain ⟨hc1, hf1⟩ := bcell hb1) | (have hb1 := hb2; clear hb2; obtain ⟨hc1, hf1⟩ := bcell hb1))) | (go_at_call 96; refine (HCM.out _).mono ?_; rintro e w2 ⟨rfl, hb2⟩; (first | (replace hb1 := btrans hb1 hb2; clear hb2 hc1 hf1; obtain ⟨hc1, hf1⟩ := bcell hb1) | (have hb1 := hb2; clear hb2; obtain ⟨hc1, hf1⟩ := bcell hb1))) | (go_at_call 98; refine (HSI.out _).mono ?_; rintro e w2 ⟨rfl, hb2⟩; (first | (replace hb1 := btrans hb1 hb2; clear hb2 hc1 hf1; obtain ⟨hc1, hf1⟩ := bcell hb1) | (have hb1 := hb2; clear hb2; obtain ⟨hc1, hf1⟩ := bcell hb1))) | fail)
    go_ret
    exact ⟨ret_bool HR.out.symm, by repeat (first | assumption | (with_reducible exact Below.refl _ _) | exact balloc _ _ | exact balloc2 _ _ _ | refine btrans ?_ (by assumption) | refine btrans ?_ (balloc _ _))⟩
  · have HR : Hid (R = ((op2 == 6 && p1) || (op2 == 1 && !p2))) := Lib.hid hr1
    clear hr1 HLO HUP
    have o61 : ((op2 == 6) = true ∧ (op2 == 1) = false) ∨ ((op2 == 6) = false ∧ (op2 == 1) = true) ∨ ((op2 == 6) = false ∧ (op2 == 1) = false) := by
      cases h1 : (op2 == 6) <;> cases h2 : (op2 == 1) <;> simp_all
    rcases o61 with ⟨o1, o2⟩ | ⟨o1, o2⟩ | ⟨o1, o2⟩
    all_goals
      go_enter Tryz.func60, Tryz.ntmps60
      go_wp2_with (first | (go_at_call 59; refine (rcvoid_any _ _ _ _ _ _ _ _).mono ?_; rintro e w2 ⟨rfl, hb2⟩; (first | rw [EA.out] | rw [EB.out]); (first | (replace hb1 := btrans hb1 hb2; clear hb2 hc1 hf1; obtain ⟨hc1, hf1⟩ := bcell hb1) | (have hb1 := hb2; clear hb2; obtain ⟨hc1, hf1⟩ := bcell hb1))) | (go_at_call 96; refine (HCM.out _).mono ?_; rintro e w2 ⟨rfl, hb2⟩; (first | (replace hb1 := btrans hb1 hb2; clear hb2 hc1 hf1; obtain ⟨hc1, hf1⟩ := bcell hb1) | (have hb1 := hb2; clear hb2; obtain ⟨hc1, hf1⟩ := bcell hb1))) | (go_at_call 99; refine (rbegins_l _ _ _).mono ?_; rintro e w' ⟨rfl, ⟨nd, rfl⟩⟩; (first | rw [EP.out] | rw [EQ.out])) | fail)
      go_ret
      exact ⟨ret_bool (by rw [HR.out, o1, o2]; simp), by first | exact bdrewN (btrans (balloc2 _ _ _) hb1) _ | exact btrans (balloc2 _ _ _) hb1⟩
end Go.Proofs.YtceplbanfpnhbaaGreatDoor.Val
end

section
/- THE WALK OF the document's Covers. -/
namespace Go.Proofs.YtceplbanfpnhbaaGreatDoor.Val
open Go.RowKit Flt
attribute [local go_sem] run_store_flt
theorem rco_below {w W0 w1 w2 : World} {af ag : Addr} {n n2 cap cp i j : Nat} {x y : C} (hb : Below w1.heap.size w1 w2)
    (h : w1.cell? ⟨w.heap.size, 1, none⟩ = some (.slice (some af) n cap) ∧ w1.cell? ⟨w.heap.size + 1, 1, none⟩ = some (.slice (some ag) n2 cp) ∧ CAt w1 (ag.add (j * 7)) x ∧ CAt w1 (af.add (i * 7)) y ∧ Below W0.heap.size W0 w1 ∧ w.heap.size < w1.heap.size ∧ w.heap.size + 1 < w1.heap.size) :
    w2.cell? ⟨w.heap.size, 1, none⟩ = some (.slice (some af) n cap) ∧ w2.cell? ⟨w.heap.size + 1, 1, none⟩ = some (.slice (some ag) n2 cp) ∧ CAt w2 (ag.add (j * 7)) x ∧ CAt w2 (af.add (i * 7)) y ∧ Below W0.heap.size W0 w2 ∧ w.heap.size < w2.heap.size ∧ w.heap.size + 1 < w2.heap.size := by
  obtain ⟨h0, h1, h2, h3, hB, l1, l2⟩ := h
  exact ⟨(hb.cell (p := ⟨w.heap.size, 1, none⟩) l1).trans h0, (hb.cell (p := ⟨w.heap.size + 1, 1, none⟩) l2).trans h1, h2.below hb, h3.below hb, btrans hB hb, Nat.lt_of_lt_of_le l1 hb.size, Nat.lt_of_lt_of_le l2 hb.size⟩
theorem rco_flat {w W0 w1 : World} {af ag : Addr} {l m : List C} {cap cp i j : Nat} {x y : C}
    (h : w1.cell? ⟨w.heap.size, 1, none⟩ = some (.slice (some af) l.length cap) ∧ w1.cell? ⟨w.heap.size + 1, 1, none⟩ = some (.slice (some ag) m.length cp) ∧ CAt w1 (ag.add (j * 7)) x ∧ CAt w1 (af.add (i * 7)) y ∧ Below W0.heap.size W0 w1 ∧ w.heap.size < w1.heap.size ∧ w.heap.size + 1 < w1.heap.size) : (fun w' => w'.cell? ⟨w.heap.size, 1, none⟩ = some (.slice (some af) l.length cap) ∧ w'.cell? ⟨w.heap.size + 1, 1, none⟩ = some (.slice (some ag) m.length cp) ∧ w'.cell? (ag.add (j * 7)) = some (.string ⟨x.name.toArray⟩) ∧ w'.cell? ⟨(ag.add (j * 7)).block, (ag.add (j * 7)).off + 1, none⟩ = some (.int .i64 x.op) ∧ w'.cell? ⟨(ag.add (j * 7)).block, (ag.add (j * 7)).off + 2, none⟩ = some (.int .i64 x.val.kind) ∧ w'.cell? ⟨(ag.add (j * 7)).block, (ag.add (j * 7)).off + 3, none⟩ = some (.int .i64 x.val.int) ∧ w'.cell? ⟨(ag.add (j * 7)).block, (ag.add (j * 7)).off + 4, none⟩ = some (.float .f64 x.val.num) ∧ w'.cell? ⟨(ag.add (j * 7)).block, (ag.add (j * 7)).off + 5, none⟩ = some (.string ⟨x.val.text.toArray⟩) ∧ w'.cell? ⟨(ag.add (j * 7)).block, (ag.add (j * 7)).off + 6, none⟩ = some (.bool x.val.yes) ∧ w'.cell? (af.add (i * 7)) = some (.string ⟨y.name.toArray⟩) ∧ w'.cell? ⟨(af.add (i * 7)).block, (af.add (i * 7)).off + 1, none⟩ = some (.int .i64 y.op) ∧ w'.cell? ⟨(af.add (i * 7)).block, (af.add (i * 7)).off + 2, none⟩ = some (.int .i64 y.val.kind) ∧ w'.cell? ⟨(af.add (i * 7)).block, (af.add (i * 7)).off + 3, none⟩ = some (.int .i64 y.val.int) ∧ w'.cell? ⟨(af.add (i * 7)).block, (af.add (i * 7)).off + 4, none⟩ = some (.float .f64 y.val.num) ∧ w'.cell? ⟨(af.add (i * 7)).block, (af.add (i * 7)).off + 5, none⟩ = some (.string ⟨y.val.text.toArray⟩) ∧ w'.cell? ⟨(af.add (i * 7)).block, (af.add (i * 7)).off + 6, none⟩ = some (.bool y.val.yes) ∧ Below W0.heap.size W0 w' ∧ (w.heap.size < w'.heap.size ∧ w.heap.size + 1 < w'.heap.size)) w1 := by
  obtain ⟨h0, h1, ⟨a0, a1, a2, a3, a4, a5, a6⟩, ⟨b0, b1, b2, b3, b4, b5, b6⟩, hB, l1, l2⟩ := h
  exact ⟨h0, h1, a0, a1, a2, a3, a4, a5, a6, b0, b1, b2, b3, b4, b5, b6, hB, l1, l2⟩
theorem rco_fold {w W0 w1 : World} {af ag : Addr} {l m : List C} {cap cp i j : Nat} {x y : C} (h : (fun w' => w'.cell? ⟨w.heap.size, 1, none⟩ = some (.slice (some af) l.length cap) ∧ w'.cell? ⟨w.heap.size + 1, 1, none⟩ = some (.slice (some ag) m.length cp) ∧ w'.cell? (ag.add (j * 7)) = some (.string ⟨x.name.toArray⟩) ∧ w'.cell? ⟨(ag.add (j * 7)).block, (ag.add (j * 7)).off + 1, none⟩ = some (.int .i64 x.op) ∧ w'.cell? ⟨(ag.add (j * 7)).block, (ag.add (j * 7)).off + 2, none⟩ = some (.int .i64 x.val.kind) ∧ w'.cell? ⟨(ag.add (j * 7)).block, (ag.add (j * 7)).off + 3, none⟩ = some (.int .i64 x.val.int) ∧ w'.cell? ⟨(ag.add (j * 7)).block, (ag.add (j * 7)).off + 4, none⟩ = some (.float .f64 x.val.num) ∧ w'.cell? ⟨(ag.add (j * 7)).block, (ag.add (j * 7)).off + 5, none⟩ = some (.string ⟨x.val.text.toArray⟩) ∧ w'.cell? ⟨(ag.add (j * 7)).block, (ag.add (j * 7)).off + 6, none⟩ = some (.bool x.val.yes) ∧ w'.cell? (af.add (i * 7)) = some (.string ⟨y.name.toArray⟩) ∧ w'.cell? ⟨(af.add (i * 7)).block, (af.add (i * 7)).off + 1, none⟩ = some (.int .i64 y.op) ∧ w'.cell? ⟨(af.add (i * 7)).block, (af.add (i * 7)).off + 2, none⟩ = some (.int .i64 y.val.kind) ∧ w'.cell? ⟨(af.add (i * 7)).block, (af.add (i * 7)).off + 3, none⟩ = some (.int .i64 y.val.int) ∧ w'.cell? ⟨(af.add (i * 7)).block, (af.add (i * 7)).off + 4, none⟩ = some (.float .f64 y.val.num) ∧ w'.cell? ⟨(af.add (i * 7)).block, (af.add (i * 7)).off + 5, none⟩ = some (.string ⟨y.val.text.toArray⟩) ∧ w'.cell? ⟨(af.add (i * 7)).block, (af.add (i * 7)).off + 6, none⟩ = some (.bool y.val.yes) ∧ Below W0.heap.size W0 w' ∧ (w.heap.size < w'.heap.size ∧ w.heap.size + 1 < w'.heap.size)) w1) :
    w1.cell? ⟨w.heap.size, 1, none⟩ = some (.slice (some af) l.length cap) ∧ w1.cell? ⟨w.heap.size + 1, 1, none⟩ = some (.slice (some ag) m.length cp) ∧ CAt w1 (ag.add (j * 7)) x ∧ CAt w1 (af.add (i * 7)) y ∧ Below W0.heap.size W0 w1 ∧ w.heap.size < w1.heap.size ∧ w.heap.size + 1 < w1.heap.size := by
  obtain ⟨h0, h1, a0, a1, a2, a3, a4, a5, a6, b0, b1, b2, b3, b4, b5, b6, hB, l1, l2⟩ := h
  exact ⟨h0, h1, ⟨a0, a1, a2, a3, a4, a5, a6⟩, ⟨b0, b1, b2, b3, b4, b5, b6⟩, hB, l1, l2⟩
theorem rco_own {w W0 w1 : World} {af ag : Addr} {l m : List C} {cap cp i j : Nat} {x y : C} (h : (fun w' => w'.cell? ⟨w.heap.size, 1, none⟩ = some (.slice (some af) l.length cap) ∧ w'.cell? ⟨w.heap.size + 1, 1, none⟩ = some (.slice (some ag) m.length cp) ∧ w'.cell? (ag.add (j * 7)) = some (.string ⟨x.name.toArray⟩) ∧ w'.cell? ⟨(ag.add (j * 7)).block, (ag.add (j * 7)).off + 1, none⟩ = some (.int .i64 x.op) ∧ w'.cell? ⟨(ag.add (j * 7)).block, (ag.add (j * 7)).off + 2, none⟩ = some (.int .i64 x.val.kind) ∧ w'.cell? ⟨(ag.add (j * 7)).block, (ag.add (j * 7)).off + 3, none⟩ = some (.int .i64 x.val.int) ∧ w'.cell? ⟨(ag.add (j * 7)).block, (ag.add (j * 7)).off + 4, none⟩ = some (.float .f64 x.val.num) ∧ w'.cell? ⟨(ag.add (j * 7)).block, (ag.add (j * 7)).off + 5, none⟩ = some (.string ⟨x.val.text.toArray⟩) ∧ w'.cell? ⟨(ag.add (j * 7)).block, (ag.add (j * 7)).off + 6, none⟩ = some (.bool x.val.yes) ∧ w'.cell? (af.add (i * 7)) = some (.string ⟨y.name.toArray⟩) ∧ w'.cell? ⟨(af.add (i * 7)).block, (af.add (i * 7)).off + 1, none⟩ = some (.int .i64 y.op) ∧ w'.cell? ⟨(af.add (i * 7)).block, (af.add (i * 7)).off + 2, none⟩ = some (.int .i64 y.val.kind) ∧ w'.cell? ⟨(af.add (i * 7)).block, (af.add (i * 7)).off + 3, none⟩ = some (.int .i64 y.val.int) ∧ w'.cell? ⟨(af.add (i * 7)).block, (af.add (i * 7)).off + 4, none⟩ = some (.float .f64 y.val.num) ∧ w'.cell? ⟨(af.add (i * 7)).block, (af.add (i * 7)).off + 5, none⟩ = some (.string ⟨y.val.text.toArray⟩) ∧ w'.cell? ⟨(af.add (i * 7)).block, (af.add (i * 7)).off + 6, none⟩ = some (.bool y.val.yes) ∧ Below W0.heap.size W0 w' ∧ (w.heap.size < w'.heap.size ∧ w.heap.size + 1 < w'.heap.size)) w1) : Below W0.heap.size W0 w1 := (rco_fold h).2.2.2.2.1
set_option maxRecDepth 20000 in
set_option maxHeartbeats 4000000 in
theorem rfcovers_any (sf : List UInt8) (a0 : Option Addr) (cap : Nat) (l : List C) (sg : List UInt8) (b0 : Option Addr) (cp : Nat) (m : List C) (w : World) (hl : Conds w a0 l) (hm : Conds w b0 m) (hlm : l.length ≤ 1000000) (hmm : m.length ≤ 1000000)
    (hsf : sf.length ≤ 140737488351232) (hsg : sg.length ≤ 140737488351232) (hop : ∀ c ∈ m, 0 ≤ c.op ∧ c.op ≤ 7) (htx : ∀ c ∈ m, c.val.text.length ≤ 140737488351232) :
    Calls Tryz.prog 29 #[ev sf a0 l.length cap, ev sg b0 m.length cp] w fun e w' => e = .returned (.bool (fCovers sf l sg m)) ∧ Below w.heap.size w w' := by
  have hun (W : World) := runder_any sg sf W hsg hsf
  have hr : fCovers sf l sg m = (fVoid m || (l.all (fun c => fSome c m) && Sc.underB sg sf)) := rfl
  have HL := Lib.hid hl; have HM := Lib.hid hm; have HUN := Lib.hid hun; have HR := Lib.hid hr; have HOP := Lib.hid hop; have HTX := Lib.hid htx
  clear hl hm hun hr hsf hsg hop htx
  generalize Sc.underB sg sf = U at *
  generalize fCovers sf l sg m = R at *
  have hx1 := (box2_new w sf a0 l.length cap 24).below (balloc _ (.cells #[.string ⟨sg.toArray⟩, .slice b0 m.length cp] 24))
  have hx2 := box2_new (w.alloc (.cells #[.string ⟨sf.toArray⟩, .slice a0 l.length cap] 24)) sg b0 m.length cp 24
  rw [World.size_alloc] at hx2
  have hbw := balloc2 w (.cells #[.string ⟨sf.toArray⟩, .slice a0 l.length cap] 24) (.cells #[.string ⟨sg.toArray⟩, .slice b0 m.length cp] 24)
  have HX1 := Lib.hid hx1; have HX2 := Lib.hid hx2; have HBW := Lib.hid hbw
  clear hx1 hx2 hbw
  go_enter Tryz.func29, Tryz.ntmps29
  go_wp2_with fail
  generalize (w.alloc _).alloc _ = W0 at *
  go_loopw [5] (fun vi wr => ∃ i : Nat, i ≤ m.length ∧ vi = .int .i64 i ∧ Hid ((m.take i).any cvoidB = false) ∧ Below W0.heap.size W0 wr) (fun vi _ => m.length - (intOf vi).toNat)
  case atStart => exact ⟨0, Nat.zero_le _, rfl, Lib.hid rfl, Below.refl _ _⟩
  case round =>
    obtain ⟨i, hi, rfl, HP, hbr⟩ := hrel
    have HBR := Lib.hid hbr
    have hy1 := HX1.out.below hbr
    have hy2 := HX2.out.below hbr
    have hs2 := hy2.lt
    obtain ⟨f0, f1⟩ := hy1
    obtain ⟨g0, g1⟩ := hy2
    clear hbr
    by_cases hlt : i < m.length
    · have i1 : (i : Int) < (m.length : Int) := by omega
      have i0 : (0 : Int) ≤ (i : Int) := by omega
      have hts := any_take_succ cvoidB m i hlt
      rw [HP.out, Bool.false_or] at hts
      have hvt : cvoidB m[i] = true → fVoid m = true := fun h => List.any_eq_true.2 ⟨_, List.getElem_mem hlt, h⟩
      obtain ⟨ag, rfl, y0, y1, y2, y3, y4, y5, y6⟩ := (HM.out.below (btrans HBW.out HBR.out)) i hlt
      have hvo (W : World) := rcvoid_any (m[i]).name (m[i]).op (m[i]).val.kind (m[i]).val.int (m[i]).val.num (m[i]).val.text (m[i]).val.yes W
      have hee : cvoidB ⟨(m[i]).name, (m[i]).op, ⟨(m[i]).val.kind, (m[i]).val.int, (m[i]).val.num, (m[i]).val.text, (m[i]).val.yes⟩⟩ = cvoidB m[i] := rfl
      rw [hee] at hvo
      have HTS := Lib.hid hts; have HVT := Lib.hid hvt; have HVO := Lib.hid hvo
      clear hts hvt hvo hee HP
      generalize cvoidB m[i] = vb at *
      go_wp2_with fail
      refine (HVO.out _).mono ?_; rintro e w5 ⟨rfl, hb5⟩
      cases vb
      · go_wp2_with fail
        exact ⟨⟨i + 1, by omega, by go_num, Lib.hid HTS.out, btrans HBR.out hb5⟩, by simp [intOf]; go_num⟩
      · go_wp2_with fail
        go_ret
        exact ⟨ret_bool (by rw [HR.out, HVT.out (by trivial)]; rfl), btrans HBW.out (btrans HBR.out hb5)⟩
    · obtain rfl : i = m.length := by omega
      have hP := HP.out
      rw [List.take_length] at hP
      have hvf : fVoid m = false := hP
      rw [hvf, Bool.false_or] at HR
      clear hP HP hvf
      go_wp2_with fail
      clear f0 f1 g0 g1 hs2
      generalize hWE : wr = WE at *
      clear hWE
      go_loopw [6] (fun vi wr => ∃ i : Nat, i ≤ l.length ∧ vi = .int .i64 i ∧ Hid ((l.take i).all (fun c => fSome c m) = true) ∧ Below W0.heap.size W0 wr) (fun vi _ => l.length - (intOf vi).toNat)
      case atStart => exact ⟨0, Nat.zero_le _, rfl, Lib.hid rfl, HBR.out⟩
      case round =>
        clear HBR
        obtain ⟨i, hi, rfl, HP, hbr⟩ := hrel
        have HBR := Lib.hid hbr
        have hy1 := HX1.out.below hbr
        have hy2 := HX2.out.below hbr
        obtain ⟨f0, f1⟩ := hy1
        obtain ⟨g0, g1⟩ := hy2
        clear hbr
        by_cases hlt : i < l.length
        · have i1 : (i : Int) < (l.length : Int) := by omega
          have i0 : (0 : Int) ≤ (i : Int) := by omega
          have hts := all_take_succ' (fun c => fSome c m) l i hlt
          have hno := all_miss (fun c => fSome c m) l i hlt
          rw [HP.out, Bool.true_and] at hts
          have hwe : ((m.take m.length).any (fun d => impliesB d l[i])) = fSome l[i] m := by rw [List.take_length]; rfl
          have hws (j : Nat) (h : j < m.length) := any_take_succ (fun d => impliesB d l[i]) m j h
          (try dsimp only at hts); (try dsimp only at hno)
          have HTS := Lib.hid hts; have HNO := Lib.hid hno; have HWE := Lib.hid hwe; have HWS := Lib.hid hws
          clear hts hno hwe hws HP
          go_wp2_with fail
          generalize hWE : wr = WE2 at *
          clear hWE
          clear f0 f1 g0 g1
          go_loopw [7, 8] (fun vb vj wr => ∃ j : Nat, j ≤ m.length ∧ vj = .int .i64 j ∧ vb = .bool ((m.take j).any (fun d => impliesB d l[i])) ∧ Below W0.heap.size W0 wr) (fun _ vj _ => m.length - (intOf vj).toNat)
          case atStart => exact ⟨0, Nat.zero_le _, rfl, rfl, HBR.out⟩
          case round =>
            obtain ⟨j, hj, rfl, rfl, hbr⟩ := hrel
            have hy1 := HX1.out.below hbr
            have hy2 := HX2.out.below hbr
            have hs1 := hy1.lt
            have hs2 := hy2.lt
            by_cases hltj : j < m.length
            · have j1 : (j : Int) < (m.length : Int) := by omega
              have j0 : (0 : Int) ≤ (j : Int) := by omega
              have hbz := btrans HBW.out hbr
              obtain ⟨ag, rfl, hag⟩ := (HM.out.below hbz) j hltj
              obtain ⟨af, rfl, haf⟩ := (HL.out.below hbz) i hlt
              obtain ⟨f0, f1⟩ := hy1
              obtain ⟨g0, g1⟩ := hy2
              have hst := rco_flat (w := w) (W0 := W0) (l := l) (m := m) ⟨f1, g1, hag, haf, hbr, hs1, hs2⟩
              have hho (W : World) := rimplies_any (m[j]).name (m[j]).op (m[j]).val.kind (m[j]).val.int (m[j]).val.num (m[j]).val.text (m[j]).val.yes (l[i]).name (l[i]).op (l[i]).val.kind (l[i]).val.int (l[i]).val.num (l[i]).val.text (l[i]).val.yes W (HOP.out _ (List.getElem_mem hltj)).1 (HOP.out _ (List.getElem_mem hltj)).2 (HTX.out _ (List.getElem_mem hltj))
              have hstep := HWS.out j hltj
              (try dsimp only at hstep)
              have hee : impliesB ⟨(m[j]).name, (m[j]).op, ⟨(m[j]).val.kind, (m[j]).val.int, (m[j]).val.num, (m[j]).val.text, (m[j]).val.yes⟩⟩ ⟨(l[i]).name, (l[i]).op, ⟨(l[i]).val.kind, (l[i]).val.int, (l[i]).val.num, (l[i]).val.text, (l[i]).val.yes⟩⟩ = impliesB m[j] l[i] := rfl
              rw [hee] at hho
              have HST := Lib.hid hst; have HHO := Lib.hid hho; have HSTEP := Lib.hid hstep
              clear hst hho hstep hee hag haf hbr hbz f0 g0
              generalize impliesB m[j] l[i] = hv at *
              generalize (m.take j).any _ = wv at *
              generalize (m[j]) = x at *
              generalize (l[i]) = y at *
              cases hv
              all_goals
                go_wp2_with fail
                clear f1 g1
                refine wp_region_held_drew (S := (fun w' => w'.cell? ⟨w.heap.size, 1, none⟩ = some (.slice (some af) l.length cap) ∧ w'.cell? ⟨w.heap.size + 1, 1, none⟩ = some (.slice (some ag) m.length cp) ∧ w'.cell? (ag.add (j * 7)) = some (.string ⟨x.name.toArray⟩) ∧ w'.cell? ⟨(ag.add (j * 7)).block, (ag.add (j * 7)).off + 1, none⟩ = some (.int .i64 x.op) ∧ w'.cell? ⟨(ag.add (j * 7)).block, (ag.add (j * 7)).off + 2, none⟩ = some (.int .i64 x.val.kind) ∧ w'.cell? ⟨(ag.add (j * 7)).block, (ag.add (j * 7)).off + 3, none⟩ = some (.int .i64 x.val.int) ∧ w'.cell? ⟨(ag.add (j * 7)).block, (ag.add (j * 7)).off + 4, none⟩ = some (.float .f64 x.val.num) ∧ w'.cell? ⟨(ag.add (j * 7)).block, (ag.add (j * 7)).off + 5, none⟩ = some (.string ⟨x.val.text.toArray⟩) ∧ w'.cell? ⟨(ag.add (j * 7)).block, (ag.add (j * 7)).off + 6, none⟩ = some (.bool x.val.yes) ∧ w'.cell? (af.add (i * 7)) = some (.string ⟨y.name.toArray⟩) ∧ w'.cell? ⟨(af.add (i * 7)).block, (af.add (i * 7)).off + 1, none⟩ = some (.int .i64 y.op) ∧ w'.cell? ⟨(af.add (i * 7)).block, (af.add (i * 7)).off + 2, none⟩ = some (.int .i64 y.val.kind) ∧ w'.cell? ⟨(af.add (i * 7)).block, (af.add (i * 7)).off + 3, none⟩ = some (.int .i64 y.val.int) ∧ w'.cell? ⟨(af.add (i * 7)).block, (af.add (i * 7)).off + 4, none⟩ = some (.float .f64 y.val.num) ∧ w'.cell? ⟨(af.add (i * 7)).block, (af.add (i * 7)).off + 5, none⟩ = some (.string ⟨y.val.text.toArray⟩) ∧ w'.cell? ⟨(af.add (i * 7)).block, (af.add (i * 7)).off + 6, none⟩ = some (.bool y.val.yes) ∧ Below W0.heap.size W0 w' ∧ (w.heap.size < w'.heap.size ∧ w.heap.size + 1 < w'.heap.size))) (by kernel_rfl) ?_ (fun hq0 => ?_)
                · ((try dsimp only); (first | exact rco_flat (rco_below (bdrewN (Below.refl _ _) 1) (rco_fold HST.out)) | assumption | exact rco_flat (rco_below (by assumption) (rco_fold (by assumption)))))
                (refine wpAnyH_take (i := 0) (oi := ?_) (v := ?_) ?_ (by kernel_rfl) (by kernel_rfl) (by kernel_rfl) ?_ (Or.inl ⟨?_, ?_⟩) (by assumption) ?_; rotate_left 2; (· (simp only [List.getElem?_toArray, List.getElem?_cons_zero]; first | done | rfl)); (· exact (fun _ _ _ h => h)); (· rfl); (· (intro w hSw; (try dsimp only at hSw); go_simp; (try with_reducible rfl))))
                (try simp only [Act.put, List.setIfInBounds_toArray, List.set_cons_zero, List.set_cons_succ])
                (refine wpAnyH_take (i := 1) (oi := ?_) (v := ?_) ?_ (by kernel_rfl) (by kernel_rfl) (by kernel_rfl) ?_ (Or.inl ⟨?_, ?_⟩) (by assumption) ?_; rotate_left 2; (· (simp only [List.getElem?_toArray, List.getElem?_cons_succ, List.getElem?_cons_zero]; first | done | rfl)); (· exact (fun _ _ _ h => h)); (· rfl); (· (intro w hSw; (try dsimp only at hSw); go_simp; (try with_reducible rfl))))
                (try simp only [Act.put, List.setIfInBounds_toArray, List.set_cons_zero, List.set_cons_succ])
                (refine wpAnyH_take (i := 2) (oi := ?_) (v := ?_) ?_ (by kernel_rfl) (by kernel_rfl) (by kernel_rfl) ?_ (Or.inl ⟨?_, ?_⟩) (by assumption) ?_; rotate_left 2; (· (simp only [List.getElem?_toArray, List.getElem?_cons_succ, List.getElem?_cons_zero]; first | done | rfl)); (· exact (fun _ _ _ h => h)); (· rfl); (· (intro w hSw; (try dsimp only at hSw); go_simp; (try with_reducible rfl))))
                (try simp only [Act.put, List.setIfInBounds_toArray, List.set_cons_zero, List.set_cons_succ])
                (refine wpAnyH_take (i := 3) (oi := ?_) (v := ?_) ?_ (by kernel_rfl) (by kernel_rfl) (by kernel_rfl) ?_ (Or.inl ⟨?_, ?_⟩) (by assumption) ?_; rotate_left 2; (· (simp only [List.getElem?_toArray, List.getElem?_cons_succ, List.getElem?_cons_zero]; first | done | rfl)); (· exact (fun _ _ _ h => h)); (· rfl); (· (intro w hSw; (try dsimp only at hSw); go_simp; (try with_reducible rfl))))
                (try simp only [Act.put, List.setIfInBounds_toArray, List.set_cons_zero, List.set_cons_succ])
                (refine wpAnyH_take (i := 4) (oi := ?_) (v := ?_) ?_ (by kernel_rfl) (by kernel_rfl) (by kernel_rfl) ?_ (Or.inl ⟨?_, ?_⟩) (by assumption) ?_; rotate_left 2; (· (simp only [List.getElem?_toArray, List.getElem?_cons_succ, List.getElem?_cons_zero]; first | done | rfl)); (· exact (fun _ _ _ h => h)); (· rfl); (· (intro w hSw; (try dsimp only at hSw); go_simp; (try with_reducible rfl))))
                (try simp only [Act.put, List.setIfInBounds_toArray, List.set_cons_zero, List.set_cons_succ])
                (refine wpAnyH_take (i := 5) (oi := ?_) (v := ?_) ?_ (by kernel_rfl) (by kernel_rfl) (by kernel_rfl) ?_ (Or.inl ⟨?_, ?_⟩) (by assumption) ?_; rotate_left 2; (· (simp only [List.getElem?_toArray, List.getElem?_cons_succ, List.getElem?_cons_zero]; first | done | rfl)); (· exact (fun _ _ _ h => h)); (· rfl); (· (intro w hSw; (try dsimp only at hSw); go_simp; (try with_reducible rfl))))
                (try simp only [Act.put, List.setIfInBounds_toArray, List.set_cons_zero, List.set_cons_succ])
                (refine wpAnyH_take (i := 6) (oi := ?_) (v := ?_) ?_ (by kernel_rfl) (by kernel_rfl) (by kernel_rfl) ?_ (Or.inl ⟨?_, ?_⟩) (by assumption) ?_; rotate_left 2; (· (simp only [List.getElem?_toArray, List.getElem?_cons_succ, List.getElem?_cons_zero]; first | done | rfl)); (· exact (fun _ _ _ h => h)); (· rfl); (· (intro w hSw; (try dsimp only at hSw); go_simp; (try with_reducible rfl))))
                (try simp only [Act.put, List.setIfInBounds_toArray, List.set_cons_zero, List.set_cons_succ])
                (refine wpAnyH_take (i := 7) (oi := ?_) (v := ?_) ?_ (by kernel_rfl) (by kernel_rfl) (by kernel_rfl) ?_ (Or.inl ⟨?_, ?_⟩) (by assumption) ?_; rotate_left 2; (· (simp only [List.getElem?_toArray, List.getElem?_cons_succ, List.getElem?_cons_zero]; first | done | rfl)); (· exact (fun _ _ _ h => h)); (· rfl); (· (intro w hSw; (try dsimp only at hSw); go_simp; (try with_reducible rfl))))
                (try simp only [Act.put, List.setIfInBounds_toArray, List.set_cons_zero, List.set_cons_succ])
                (refine wpAnyH_take (i := 8) (oi := ?_) (v := ?_) ?_ (by kernel_rfl) (by kernel_rfl) (by kernel_rfl) ?_ (Or.inl ⟨?_, ?_⟩) (by assumption) ?_; rotate_left 2; (· (simp only [List.getElem?_toArray, List.getElem?_cons_succ, List.getElem?_cons_zero]; first | done | rfl)); (· exact (fun _ _ _ h => h)); (· rfl); (· (intro w hSw; (try dsimp only at hSw); go_simp; (try with_reducible rfl))))
                (try simp only [Act.put, List.setIfInBounds_toArray, List.set_cons_zero, List.set_cons_succ])
                (refine wpAnyH_take (i := 9) (oi := ?_) (v := ?_) ?_ (by kernel_rfl) (by kernel_rfl) (by kernel_rfl) ?_ (Or.inl ⟨?_, ?_⟩) (by assumption) ?_; rotate_left 2; (· (simp only [List.getElem?_toArray, List.getElem?_cons_succ, List.getElem?_cons_zero]; first | done | rfl)); (· exact (fun _ _ _ h => h)); (· rfl); (· (intro w hSw; (try dsimp only at hSw); go_simp; (try with_reducible rfl))))
                (try simp only [Act.put, List.setIfInBounds_toArray, List.set_cons_zero, List.set_cons_succ])
                refine wpAnyH_ready (rs := [10]) (by kernel_rfl) (by simp) ?_
                refine AllReadyH.cons (o := ?_) ?_ (fun K hK => ?_) AllReadyH.nil
                rotate_left 1
                · (simp only [List.getElem?_toArray, List.getElem?_cons_succ, List.getElem?_cons_zero]; first | done | rfl)
                go_simp
                first | (refine hK.out _ _ ?_ (fun hq1 => ?_)) | ((first | (go_at_call 60; refine (HHO.out _).mono ?_; rintro e w5 ⟨rfl, hb5⟩)); refine hK.out _ _ ?_ (fun hq1 => ?_)) | ((first | (go_at_call 60; refine (HHO.out _).mono ?_; rintro e w5 ⟨rfl, hb5⟩)); go_wp2_with fail; refine hK.out _ _ ?_ (fun hq1 => ?_)) | fail
                · ((try dsimp only); (first | exact rco_flat (rco_below (bdrewN (Below.refl _ _) 1) (rco_fold HST.out)) | assumption | exact rco_flat (rco_below (by assumption) (rco_fold (by assumption)))))
                clear hK K
                (try simp only [Act.put, List.setIfInBounds_toArray, List.set_cons_zero, List.set_cons_succ])
                clear hq0
                refine wpAnyH_done (by kernel_rfl) ?_ _
                go_wp2_with fail
                exact ⟨⟨j + 1, by omega, by go_num, congrArg _ (by rw [HSTEP.out]; simp), rco_own (by assumption)⟩, by simp [intOf]; go_num⟩
            · obtain rfl : j = m.length := by omega
              rw [HWE.out]
              have HBN := Lib.hid hbr
              obtain ⟨f0, f1⟩ := hy1
              obtain ⟨g0, g1⟩ := hy2
              clear hbr
              generalize fSome l[i] m = M at *
              cases M
              · go_wp2_with fail
                go_ret
                exact ⟨ret_bool (by rw [HR.out, HNO.out (by trivial)]; rfl), btrans HBW.out HBN.out⟩
              · go_wp2_with fail
                exact ⟨⟨i + 1, by omega, by go_num, Lib.hid HTS.out, HBN.out⟩, by simp [intOf]; go_num⟩
        · obtain rfl : i = l.length := by omega
          have hP := HP.out
          rw [List.take_length] at hP
          have HQ := Lib.hid hP; clear hP
          go_wp2_with fail
          refine (HUN.out _).mono ?_; rintro e w5 ⟨rfl, rfl⟩
          go_wp2_with fail
          go_ret
          exact ⟨ret_bool (by rw [HR.out, HQ.out]; rfl), btrans HBW.out HBR.out⟩
end Go.Proofs.YtceplbanfpnhbaaGreatDoor.Val
end

section
/- THE WALK OF the law FilterCovers. -/
namespace Go.Proofs.YtceplbanfpnhbaaGreatDoor.Val
open Go.RowKit Flt
attribute [local go_sem] run_store_flt
theorem fc_below {W0 w1 w2 : World} {s1 s2 se : List UInt8} {a1 a2 e0 : Option Addr} {l1 l2 : List C} {el : List A} {pa pb pe c1 c2 ecp : Nat} (hb : Below w1.heap.size w1 w2) (h : (fun w' => w'.cell? ⟨pa, 0, none⟩ = some (.string ⟨s1.toArray⟩) ∧ w'.cell? ⟨pa, 1, none⟩ = some (.slice a1 l1.length c1) ∧ w'.cell? ⟨pb, 0, none⟩ = some (.string ⟨s2.toArray⟩) ∧ w'.cell? ⟨pb, 1, none⟩ = some (.slice a2 l2.length c2) ∧ w'.cell? ⟨pe, 0, none⟩ = some (.string ⟨se.toArray⟩) ∧ w'.cell? ⟨pe, 1, none⟩ = some (.slice e0 el.length ecp) ∧ Below W0.heap.size W0 w' ∧ (pa < w'.heap.size ∧ pb < w'.heap.size ∧ pe < w'.heap.size)) w1) : (fun w' => w'.cell? ⟨pa, 0, none⟩ = some (.string ⟨s1.toArray⟩) ∧ w'.cell? ⟨pa, 1, none⟩ = some (.slice a1 l1.length c1) ∧ w'.cell? ⟨pb, 0, none⟩ = some (.string ⟨s2.toArray⟩) ∧ w'.cell? ⟨pb, 1, none⟩ = some (.slice a2 l2.length c2) ∧ w'.cell? ⟨pe, 0, none⟩ = some (.string ⟨se.toArray⟩) ∧ w'.cell? ⟨pe, 1, none⟩ = some (.slice e0 el.length ecp) ∧ Below W0.heap.size W0 w' ∧ (pa < w'.heap.size ∧ pb < w'.heap.size ∧ pe < w'.heap.size)) w2 := by
  obtain ⟨h0, h1, h2, h3, h4, h5, hB, l1, l2, l3⟩ := h
  have c : ∀ q o, q < w1.heap.size → w2.cell? ⟨q, o, none⟩ = w1.cell? ⟨q, o, none⟩ := fun q o hq => hb.cell (p := ⟨q, o, none⟩) hq
  exact ⟨by rw [c _ _ l1]; exact h0, by rw [c _ _ l1]; exact h1, by rw [c _ _ l2]; exact h2, by rw [c _ _ l2]; exact h3, by rw [c _ _ l3]; exact h4, by rw [c _ _ l3]; exact h5, btrans hB hb, Nat.lt_of_lt_of_le l1 hb.size, Nat.lt_of_lt_of_le l2 hb.size, Nat.lt_of_lt_of_le l3 hb.size⟩
theorem fc_own {W0 w1 : World} {s1 s2 se : List UInt8} {a1 a2 e0 : Option Addr} {l1 l2 : List C} {el : List A} {pa pb pe c1 c2 ecp : Nat} (h : (fun w' => w'.cell? ⟨pa, 0, none⟩ = some (.string ⟨s1.toArray⟩) ∧ w'.cell? ⟨pa, 1, none⟩ = some (.slice a1 l1.length c1) ∧ w'.cell? ⟨pb, 0, none⟩ = some (.string ⟨s2.toArray⟩) ∧ w'.cell? ⟨pb, 1, none⟩ = some (.slice a2 l2.length c2) ∧ w'.cell? ⟨pe, 0, none⟩ = some (.string ⟨se.toArray⟩) ∧ w'.cell? ⟨pe, 1, none⟩ = some (.slice e0 el.length ecp) ∧ Below W0.heap.size W0 w' ∧ (pa < w'.heap.size ∧ pb < w'.heap.size ∧ pe < w'.heap.size)) w1) : Below W0.heap.size W0 w1 := h.2.2.2.2.2.2.1
set_option maxRecDepth 20000 in
set_option maxHeartbeats 40000000 in
theorem fcovers_law (s1 : List UInt8) (a1 : Option Addr) (c1 : Nat) (l1 : List C) (s2 : List UInt8) (a2 : Option Addr) (c2 : Nat) (l2 : List C) (s : List UInt8) (b0 : Option Addr) (bcap : Nat) (al : List A) (w : World) (hw : Words w) (hT : Tab.Tabs w)
    (h1 : Open.FIn w s1 a1 c1 l1) (h2 : Open.FIn w s2 a2 c2 l2) (hs : s.length ≤ 140737488351232) (ha : Attrs w b0 al) (hoka : ∀ x ∈ al, Open.AOk x) (ham : al.length ≤ maxLen) :
    Calls Tryz.prog 7 #[.agg #[.string ⟨s1.toArray⟩, .slice a1 l1.length c1, .string ⟨s2.toArray⟩, .slice a2 l2.length c2], .string ⟨s.toArray⟩, .slice b0 al.length bcap] w fun e w' => e = .returned (.bool true) ∧ Below w.heap.size w w' := by
  obtain ⟨z1, q1, m1, cs1, ok1, _⟩ := h1
  have hli1 (W : World) (h : Conds W a1 l1) := light07_any s1 a1 c1 l1 W h (Nat.le_trans q1 m1)
  have hri1 (W : World) (h : Conds W a1 l1) (hm : l1.length ≤ 1000000) := fright_any s1 a1 c1 l1 W h hm z1 (fun c hc => ⟨(ok1 c hc).1, (ok1 c hc).2.2.2.2.2⟩)
  have hsm1 := fun h : fRight s1 l1 = true => (⟨fright_small h ok1 (fun c hc => (ok1 c hc).2.2.2.2.1), h⟩ : _ ∧ fRight s1 l1 = true)
  have hsr1 : fRight s1 l1 = true → Sc.rightB s1 = true := fun h => by
    unfold fRight at h
    simp only [Bool.and_eq_true] at h
    exact h.2.1
  generalize fRight s1 l1 = fr1 at *
  have HC1 := Lib.hid cs1; have HLI1 := Lib.hid hli1; have HRI1 := Lib.hid hri1; have HSM1 := Lib.hid hsm1; have HSR1 := Lib.hid hsr1
  clear cs1 hli1 hri1 hsm1 hsr1 ok1 q1 m1
  obtain ⟨z2, q2, m2, cs2, ok2, _⟩ := h2
  have hli2 (W : World) (h : Conds W a2 l2) := light07_any s2 a2 c2 l2 W h (Nat.le_trans q2 m2)
  have hri2 (W : World) (h : Conds W a2 l2) (hm : l2.length ≤ 1000000) := fright_any s2 a2 c2 l2 W h hm z2 (fun c hc => ⟨(ok2 c hc).1, (ok2 c hc).2.2.2.2.2⟩)
  have hsm2 := fun h : fRight s2 l2 = true => (⟨fright_small h ok2 (fun c hc => (ok2 c hc).2.2.2.2.1), h⟩ : _ ∧ fRight s2 l2 = true)
  have hsr2 : fRight s2 l2 = true → Sc.rightB s2 = true := fun h => by
    unfold fRight at h
    simp only [Bool.and_eq_true] at h
    exact h.2.1
  generalize fRight s2 l2 = fr2 at *
  have HC2 := Lib.hid cs2; have HLI2 := Lib.hid hli2; have HRI2 := Lib.hid hri2; have HSM2 := Lib.hid hsm2; have HSR2 := Lib.hid hsr2
  clear cs2 hli2 hri2 hsm2 hsr2 ok2 q2 m2
  have hfw (W : World) (h : Attrs W b0 al) := few07_any b0 bcap al W h ham
  have hev (W : World) (h : Attrs W b0 al) (hm : al.length ≤ 20) := event07_any s b0 bcap al W h (by omega) hs hoka
  have hel : (evL al).length ≤ 8 := by unfold evL; rw [List.length_take]; omega
  have hss : (evS s).length ≤ 140737488351232 := by unfold evS; split <;> simp [hs]
  generalize evL al = el at *
  generalize hse : evS s = se at *
  have HW := Lib.hid hw; have HT := Lib.hid hT; have HA := Lib.hid ha; have HFW := Lib.hid hfw; have HEV := Lib.hid hev
  clear hw hT ha hoka hfw hev ham hs hse
  go_enter Tryz.func7, Tryz.ntmps7
  go_wp2_with fail
  refine (fit07_any _ (HW.out.below (balloc _ _))).mono ?_; rintro e w1 ⟨rfl, hb1⟩
  have HBX := Lib.hid ((box4_new w s1 a1 l1.length c1 s2 a2 l2.length c2 53).below hb1)
  have HBR := Lib.hid (btrans (balloc w (.cells #[.string ⟨s1.toArray⟩, .slice a1 l1.length c1, .string ⟨s2.toArray⟩, .slice a2 l2.length c2] 53)) hb1)
  clear hb1
  go_upto_region 3 with fail
  go_cut [7, 8] (fun va vb wx => ∃ pa pb : Nat, va = .pointer (some ⟨pa, 0, none⟩) ∧ vb = .pointer (some ⟨pb, 0, none⟩) ∧ Hid (Box2 wx pa s1 a1 l1.length c1) ∧ Hid (Box2 wx pb s2 a2 l2.length c2) ∧ Hid (Below w1.heap.size w1 wx))
  case first => as_aux_lemma =>
    have hlt0 : w.heap.size < w1.heap.size := World.block_lt_of_cell? _ _ HBX.out.1
    obtain ⟨f0, f1, f2, f3⟩ := HBX.out
    clear HBX HBR HC1 HC2 HLI1 HLI2 HRI1 HRI2 HSM1 HSM2 HSR1 HSR2 HW HT HA HFW HEV
    generalize w.heap.size = p3 at *
    have hlt1 : p3 < w1.heap.size + 1 := by omega
    have hne0 : ¬ p3 = w1.heap.size := by omega
    have hne1 : ¬ p3 = w1.heap.size + 1 := by omega
    go_region
    all_goals
      go_wp2_with fail
      go_meet
      first
      | exact ⟨_, _, rfl, rfl, Lib.hid (boxt_new w1 s1 a1 l1.length c1 s2 a2 l2.length c2 24).1, Lib.hid (boxt_new w1 s1 a1 l1.length c1 s2 a2 l2.length c2 24).2.1, Lib.hid (boxt_new w1 s1 a1 l1.length c1 s2 a2 l2.length c2 24).2.2⟩
      | exact ⟨_, _, rfl, rfl, Lib.hid (boxt_new w1 s2 a2 l2.length c2 s1 a1 l1.length c1 24).2.1, Lib.hid (boxt_new w1 s2 a2 l2.length c2 s1 a1 l1.length c1 24).1, Lib.hid (boxt_new w1 s2 a2 l2.length c2 s1 a1 l1.length c1 24).2.2⟩
  case rest => as_aux_lemma =>
    obtain ⟨pa, pb, rfl, rfl, BA, BB, HBC⟩ := hcut
    replace HBR := Lib.hid (btrans HBR.out HBC.out)
    clear HBX HBC
    obtain ⟨f0, f1⟩ := BA.out
    obtain ⟨g0, g1⟩ := BB.out
    go_wp2_with fail
    refine (HLI1.out _ (HC1.out.below HBR.out)).mono ?_; rintro e w2 ⟨⟨fb, rfl, hfl⟩, hbn⟩; (replace BA := Lib.hid (BA.out.below hbn); replace BB := Lib.hid (BB.out.below hbn); replace HBR := Lib.hid (btrans HBR.out hbn); clear hbn f0 f1 g0 g1; obtain ⟨f0, f1⟩ := BA.out; obtain ⟨g0, g1⟩ := BB.out)
    cases fb
    · go_wp2_with fail
      go_ret
      exact ⟨rfl, HBR.out⟩
    have hl1 := hfl rfl
    clear hfl
    go_wp2_with fail
    refine (HLI2.out _ (HC2.out.below HBR.out)).mono ?_; rintro e w2 ⟨⟨fb, rfl, hfl⟩, hbn⟩; (replace BA := Lib.hid (BA.out.below hbn); replace BB := Lib.hid (BB.out.below hbn); replace HBR := Lib.hid (btrans HBR.out hbn); clear hbn f0 f1 g0 g1; obtain ⟨f0, f1⟩ := BA.out; obtain ⟨g0, g1⟩ := BB.out)
    cases fb
    · go_wp2_with fail
      go_ret
      exact ⟨rfl, HBR.out⟩
    have hl2 := hfl rfl
    clear hfl
    go_wp2_with fail
    refine (HFW.out _ (HA.out.below HBR.out)).mono ?_; rintro e w4 ⟨⟨fb, rfl, hfl⟩, hbn⟩; (replace BA := Lib.hid (BA.out.below hbn); replace BB := Lib.hid (BB.out.below hbn); replace HBR := Lib.hid (btrans HBR.out hbn); clear hbn f0 f1 g0 g1; obtain ⟨f0, f1⟩ := BA.out; obtain ⟨g0, g1⟩ := BB.out)
    cases fb
    · go_wp2_with fail
      go_ret
      exact ⟨rfl, HBR.out⟩
    have ha20 := hfl rfl
    clear hfl
    by_cases h100 : s.length ≤ 100
    rotate_left
    · have d1 : (100 : Int) < (s.length : Int) := by omega
      go_wp2_with fail
      go_ret
      exact ⟨rfl, HBR.out⟩
    have d1 : ¬ (100 : Int) < (s.length : Int) := by omega
    go_wp2_with fail
    refine (HRI1.out _ (HC1.out.below HBR.out) (by omega)).mono ?_; rintro e w3 ⟨rfl, hbn⟩; (replace BA := Lib.hid (BA.out.below hbn); replace BB := Lib.hid (BB.out.below hbn); replace HBR := Lib.hid (btrans HBR.out hbn); clear hbn f0 f1 g0 g1; obtain ⟨f0, f1⟩ := BA.out; obtain ⟨g0, g1⟩ := BB.out)
    cases fr1
    · go_wp2_with fail
      go_ret
      exact ⟨rfl, HBR.out⟩
    obtain ⟨⟨y1, x1, k1, o1⟩, _⟩ := HSM1.out rfl
    have r1 := HSR1.out rfl
    have HOK1 := Lib.hid k1; have HSC1 := Lib.hid o1; have HRT1 := Lib.hid r1
    clear k1 o1 r1 HSM1 HSR1
    go_wp2_with fail
    refine (HRI2.out _ (HC2.out.below HBR.out) (by omega)).mono ?_; rintro e w3 ⟨rfl, hbn⟩; (replace BA := Lib.hid (BA.out.below hbn); replace BB := Lib.hid (BB.out.below hbn); replace HBR := Lib.hid (btrans HBR.out hbn); clear hbn f0 f1 g0 g1; obtain ⟨f0, f1⟩ := BA.out; obtain ⟨g0, g1⟩ := BB.out)
    cases fr2
    · go_wp2_with fail
      go_ret
      exact ⟨rfl, HBR.out⟩
    obtain ⟨⟨y2, x2, k2, o2⟩, _⟩ := HSM2.out rfl
    have r2 := HSR2.out rfl
    have HOK2 := Lib.hid k2; have HSC2 := Lib.hid o2; have HRT2 := Lib.hid r2
    clear k2 o2 r2 HSM2 HSR2
    clear HLI1 HLI2 HRI1 HRI2 HFW
    have hxc : ∀ W, Conds W a1 l1 → Conds W a2 l2 → Calls Tryz.prog 19 #[ev s1 a1 l1.length c1, ev s2 a2 l2.length c2] W fun e w' => e = .returned (.bool (fCovers s1 l1 s2 l2)) ∧ Below W.heap.size W w' :=
      fun W g1 g2 => fcovers_any s1 a1 c1 l1 s2 a2 c2 l2 W g1 g2 (by omega) (by omega) z1 z2 (fun c h => (HSC2.out c h).2) (fun c h => (HSC2.out c h).1.2.2.1) (fun c h => (HSC1.out c h).1.2.2.1)
    have HXC := Lib.hid hxc
    clear hxc
    go_wp2_with fail
    refine (HXC.out _ (HC1.out.below HBR.out) (HC2.out.below HBR.out)).mono ?_; rintro e w5 ⟨rfl, hbn⟩; (replace BA := Lib.hid (BA.out.below hbn); replace BB := Lib.hid (BB.out.below hbn); replace HBR := Lib.hid (btrans HBR.out hbn); clear hbn f0 f1 g0 g1; obtain ⟨f0, f1⟩ := BA.out; obtain ⟨g0, g1⟩ := BB.out)
    clear HXC
    go_wp2_with fail
    refine (HEV.out _ (HA.out.below HBR.out) ha20).mono ?_
    rintro e w6 ⟨e0, ecp, rfl, hat6, hbn⟩; (replace BA := Lib.hid (BA.out.below hbn); replace BB := Lib.hid (BB.out.below hbn); replace HBR := Lib.hid (btrans HBR.out hbn); clear hbn f0 f1 g0 g1; obtain ⟨f0, f1⟩ := BA.out; obtain ⟨g0, g1⟩ := BB.out)
    have HAT := Lib.hid (hat6.below (balloc w6 (.cells #[.string ⟨se.toArray⟩, .slice e0 el.length ecp] 57))); have BE := Lib.hid (box2_new w6 se e0 el.length ecp 57)
    replace BA := Lib.hid (BA.out.below (balloc w6 (.cells #[.string ⟨se.toArray⟩, .slice e0 el.length ecp] 57))); replace BB := Lib.hid (BB.out.below (balloc w6 (.cells #[.string ⟨se.toArray⟩, .slice e0 el.length ecp] 57))); replace HBR := Lib.hid (btrans HBR.out (balloc w6 (.cells #[.string ⟨se.toArray⟩, .slice e0 el.length ecp] 57)))
    clear hat6 HEV HA
    go_upto_region 8 with fail
    clear f0 f1 g0 g1
    generalize w6.alloc _ = W0 at *
    generalize w6.heap.size = pe at *
    obtain ⟨f0, f1⟩ := BA.out
    obtain ⟨g0, g1⟩ := BB.out
    obtain ⟨e1, e2⟩ := BE.out
    have hr : ∀ W, Below W0.heap.size W0 W → Calls Tryz.prog 29 #[ev s1 a1 l1.length c1, ev s2 a2 l2.length c2] W fun e w' => e = .returned (.bool (fCovers s1 l1 s2 l2)) ∧ Below W.heap.size W w' :=
      fun W hb => rfcovers_any s1 a1 c1 l1 s2 a2 c2 l2 W (HC1.out.below (btrans HBR.out hb)) (HC2.out.below (btrans HBR.out hb)) (by omega) (by omega) z1 z2 (fun c h => (HSC2.out c h).2) (fun c h => by have := (HSC2.out c h).1.2.1; omega)
    have hm1 : ∀ W, Below W0.heap.size W0 W → Calls Tryz.prog 30 #[ev s1 a1 l1.length c1, ev se e0 el.length ecp] W fun e w' => e = .returned (.bool (fMatch s1 l1 se el)) ∧ Below W.heap.size W w' :=
      fun W hb => fmatch_any s1 a1 c1 l1 se e0 ecp el W (HC1.out.below (btrans HBR.out hb)) (HAT.out.below hb) (by omega) (by omega) z1 hss
    have hm2 : ∀ W, Below W0.heap.size W0 W → Calls Tryz.prog 30 #[ev s2 a2 l2.length c2, ev se e0 el.length ecp] W fun e w' => e = .returned (.bool (fMatch s2 l2 se el)) ∧ Below W.heap.size W w' :=
      fun W hb => fmatch_any s2 a2 c2 l2 se e0 ecp el W (HC2.out.below (btrans HBR.out hb)) (HAT.out.below hb) (by omega) (by omega) z2 hss
    have hff : ∀ W, Below W0.heap.size W0 W → Calls Tryz.prog 19 #[ev s1 a1 l1.length c1, ev s1 a1 l1.length c1] W fun e w' => e = .returned (.bool (fCovers s1 l1 s1 l1)) ∧ Below W.heap.size W w' :=
      fun W hb => fcovers_any s1 a1 c1 l1 s1 a1 c1 l1 W (HC1.out.below (btrans HBR.out hb)) (HC1.out.below (btrans HBR.out hb)) (by omega) (by omega) z1 z1 (fun c h => (HSC1.out c h).2) (fun c h => (HSC1.out c h).1.2.2.1) (fun c h => (HSC1.out c h).1.2.2.1)
    have hself : fCovers s1 l1 s1 l1 = true := covers_mems (fun c h => h) (fun c h => (HSC1.out c h).2)
    have hmm : fCovers s1 l1 s2 l2 = true → fMatch s2 l2 se el = true → fMatch s1 l1 se el = true := fun h g => covers_match (HOK1.out.op) (HOK2.out.op) h g
    have hst : (fun w' => w'.cell? ⟨pa, 0, none⟩ = some (.string ⟨s1.toArray⟩) ∧ w'.cell? ⟨pa, 1, none⟩ = some (.slice a1 l1.length c1) ∧ w'.cell? ⟨pb, 0, none⟩ = some (.string ⟨s2.toArray⟩) ∧ w'.cell? ⟨pb, 1, none⟩ = some (.slice a2 l2.length c2) ∧ w'.cell? ⟨pe, 0, none⟩ = some (.string ⟨se.toArray⟩) ∧ w'.cell? ⟨pe, 1, none⟩ = some (.slice e0 el.length ecp) ∧ Below W0.heap.size W0 w' ∧ (pa < w'.heap.size ∧ pb < w'.heap.size ∧ pe < w'.heap.size)) W0 := by
      obtain ⟨x0, x1⟩ := BA.out
      obtain ⟨y0, y1⟩ := BB.out
      obtain ⟨u0, u1⟩ := BE.out
      exact ⟨x0, x1, y0, y1, u0, u1, Below.refl _ _, BA.out.lt, BB.out.lt, BE.out.lt⟩
    have HS := Lib.hid hst
    clear hst
    rw [hself] at hff
    generalize hX : fCovers s1 l1 s2 l2 = X at *
    have HX := Lib.hid hX
    generalize fMatch s1 l1 se el = M1 at *
    generalize fMatch s2 l2 se el = M2 at *
    have HRC := Lib.hid hr; have HM1 := Lib.hid hm1; have HM2 := Lib.hid hm2; have HFF := Lib.hid hff; have HMM := Lib.hid hmm
    clear hr hm1 hm2 hff hmm hself hX BE HAT f0 f1 g0 g1 e1 e2
    go_cut [77] (fun v wx => v = .bool false ∧ Hid ((fun w' => w'.cell? ⟨pa, 0, none⟩ = some (.string ⟨s1.toArray⟩) ∧ w'.cell? ⟨pa, 1, none⟩ = some (.slice a1 l1.length c1) ∧ w'.cell? ⟨pb, 0, none⟩ = some (.string ⟨s2.toArray⟩) ∧ w'.cell? ⟨pb, 1, none⟩ = some (.slice a2 l2.length c2) ∧ w'.cell? ⟨pe, 0, none⟩ = some (.string ⟨se.toArray⟩) ∧ w'.cell? ⟨pe, 1, none⟩ = some (.slice e0 el.length ecp) ∧ Below W0.heap.size W0 w' ∧ (pa < w'.heap.size ∧ pb < w'.heap.size ∧ pe < w'.heap.size)) wx))
    case first => as_aux_lemma =>
      obtain ⟨x0, x1, u0, u1, v0, v1, _, _, _, _⟩ := HS.out
      clear BA BB HOK1 HOK2 HSC1 HSC2 HRT1 HRT2 HX HC1 HC2 HW HT
      cases X
      · go_wp2_with fail
        refine (HRC.out _ (fc_own HS.out)).mono ?_; rintro e w7 ⟨rfl, hbn⟩; (replace HS := Lib.hid (fc_below hbn HS.out); clear hbn x0 x1 u0 u1 v0 v1; obtain ⟨x0, x1, u0, u1, v0, v1, _, _, _, _⟩ := HS.out)
        go_wp2_with fail
        refine (HFF.out _ (fc_own HS.out)).mono ?_; rintro e w8 ⟨rfl, hbn⟩
        go_wp2_with fail
        go_meet
        exact ⟨rfl, Lib.hid (fc_below hbn HS.out)⟩
      · cases M2
        · go_wp2_with fail
          refine (HRC.out _ (fc_own HS.out)).mono ?_; rintro e w7 ⟨rfl, hbn⟩; (replace HS := Lib.hid (fc_below hbn HS.out); clear hbn x0 x1 u0 u1 v0 v1; obtain ⟨x0, x1, u0, u1, v0, v1, _, _, _, _⟩ := HS.out)
          go_wp2_with fail
          refine (HM2.out _ (fc_own HS.out)).mono ?_; rintro e w7 ⟨rfl, hbn⟩; (replace HS := Lib.hid (fc_below hbn HS.out); clear hbn x0 x1 u0 u1 v0 v1; obtain ⟨x0, x1, u0, u1, v0, v1, _, _, _, _⟩ := HS.out)
          go_wp2_with fail
          refine (HFF.out _ (fc_own HS.out)).mono ?_; rintro e w8 ⟨rfl, hbn⟩
          go_wp2_with fail
          go_meet
          exact ⟨rfl, Lib.hid (fc_below hbn HS.out)⟩
        · obtain rfl : M1 = true := HMM.out rfl rfl
          go_wp2_with fail
          refine (HRC.out _ (fc_own HS.out)).mono ?_; rintro e w7 ⟨rfl, hbn⟩; (replace HS := Lib.hid (fc_below hbn HS.out); clear hbn x0 x1 u0 u1 v0 v1; obtain ⟨x0, x1, u0, u1, v0, v1, _, _, _, _⟩ := HS.out)
          go_wp2_with fail
          refine (HM2.out _ (fc_own HS.out)).mono ?_; rintro e w7 ⟨rfl, hbn⟩; (replace HS := Lib.hid (fc_below hbn HS.out); clear hbn x0 x1 u0 u1 v0 v1; obtain ⟨x0, x1, u0, u1, v0, v1, _, _, _, _⟩ := HS.out)
          go_wp2_with fail
          refine (HM1.out _ (fc_own HS.out)).mono ?_; rintro e w7 ⟨rfl, hbn⟩; (replace HS := Lib.hid (fc_below hbn HS.out); clear hbn x0 x1 u0 u1 v0 v1; obtain ⟨x0, x1, u0, u1, v0, v1, _, _, _, _⟩ := HS.out)
          go_wp2_with fail
          refine (HFF.out _ (fc_own HS.out)).mono ?_; rintro e w8 ⟨rfl, hbn⟩
          go_wp2_with fail
          go_meet
          exact ⟨rfl, Lib.hid (fc_below hbn HS.out)⟩
    case rest => as_aux_lemma =>
      obtain ⟨rfl, HS2⟩ := hcut
      go_wp2_with fail
      replace HBR := Lib.hid (btrans HBR.out (fc_own HS2.out))
      have BA2 : Hid (Box2 wc pa s1 a1 l1.length c1) := Lib.hid ⟨HS2.out.1, HS2.out.2.1⟩
      have BB2 : Hid (Box2 wc pb s2 a2 l2.length c2) := Lib.hid ⟨HS2.out.2.2.1, HS2.out.2.2.2.1⟩
      have hno1 : ∀ W, Below wc.heap.size wc W → Calls Tryz.prog 31 #[ev s1 a1 l1.length c1] W fun e w' => ∃ b0 cp, e = .returned (ev s1 b0 (normL l1).length cp) ∧ Conds w' b0 (normL l1) ∧ Below W.heap.size W w' := fun W hb =>
        norm_any s1 a1 c1 l1 W (HC1.out.below (btrans HBR.out hb)) (by omega) (HW.out.below (btrans HBR.out hb)) (HT.out.below (btrans HBR.out hb) (Nat.le_refl _)) HSC1.out
      have hno2 : ∀ W, Below wc.heap.size wc W → Calls Tryz.prog 31 #[ev s2 a2 l2.length c2] W fun e w' => ∃ b0 cp, e = .returned (ev s2 b0 (normL l2).length cp) ∧ Conds w' b0 (normL l2) ∧ Below W.heap.size W w' := fun W hb =>
        norm_any s2 a2 c2 l2 W (HC2.out.below (btrans HBR.out hb)) (by omega) (HW.out.below (btrans HBR.out hb)) (HT.out.below (btrans HBR.out hb) (Nat.le_refl _)) HSC2.out
      have hsall : ∀ W, Below wc.heap.size wc W → (fun w' => w'.cell? ⟨pa, 0, none⟩ = some (.string ⟨s1.toArray⟩) ∧ w'.cell? ⟨pa, 1, none⟩ = some (.slice a1 l1.length c1) ∧ w'.cell? ⟨pb, 0, none⟩ = some (.string ⟨s2.toArray⟩) ∧ w'.cell? ⟨pb, 1, none⟩ = some (.slice a2 l2.length c2)) W := fun W hb => ⟨(BA2.out.below hb).1, (BA2.out.below hb).2, (BB2.out.below hb).1, (BB2.out.below hb).2⟩
      have HNO1 := Lib.hid hno1; have HNO2 := Lib.hid hno2; have HSALL := Lib.hid hsall
      have nc1 := @norm_covers s1 l1 HOK1.out
      have nc2 := (@norm_covers2 s1 s2 l1 l2 HOK1.out HOK2.out).trans HX.out
      have no1 := HOK1.out.norm.op
      have nn1 : ∀ c ∈ normL l1, c.val.num < 18446744073709551616 := fun c h => (HOK1.out.norm c h).2
      have no2 := HOK2.out.norm.op
      have nn2 : ∀ c ∈ normL l2, c.val.num < 18446744073709551616 := fun c h => (HOK2.out.norm c h).2
      have ln1 := normL_len l1
      have ln2 := normL_len l2
      have NC1 := Lib.hid nc1; have NC2 := Lib.hid nc2; have NO1 := Lib.hid no1; have NN1 := Lib.hid nn1; have NO2 := Lib.hid no2; have NN2 := Lib.hid nn2
      clear hno1 hno2 hsall nc1 nc2 no1 nn1 no2 nn2 HS HS2 HRC HM1 HM2 HFF HMM BA BB HX HOK1 HOK2 HRT1 HRT2
      generalize normL l1 = N1 at *
      generalize normL l2 = N2 at *
      go_cut [11, 12] (fun va vb wx => ∃ (pn pm : Nat) (n1 : Option Addr) (cn1 : Nat) (n2 : Option Addr) (cn2 : Nat), va = .pointer (some ⟨pn, 0, none⟩) ∧ vb = .pointer (some ⟨pm, 0, none⟩) ∧ Hid (Box2 wx pn s1 n1 N1.length cn1) ∧ Hid (Box2 wx pm s2 n2 N2.length cn2) ∧ Hid (Conds wx n1 N1) ∧ Hid (Conds wx n2 N2) ∧ Hid (Below wc.heap.size wc wx))
      case first => as_aux_lemma =>
        clear BA2 BB2 NC1 NC2 NO1 NN1 NO2 NN2 HBR HC1 HC2 HSC1 HSC2 HW HT
        refine wp_region_held_drew (S := (fun w' => w'.cell? ⟨pa, 0, none⟩ = some (.string ⟨s1.toArray⟩) ∧ w'.cell? ⟨pa, 1, none⟩ = some (.slice a1 l1.length c1) ∧ w'.cell? ⟨pb, 0, none⟩ = some (.string ⟨s2.toArray⟩) ∧ w'.cell? ⟨pb, 1, none⟩ = some (.slice a2 l2.length c2))) (by kernel_rfl) ?_ (fun hq0 => ?_)
        · exact HSALL.out _ (bdrewN (Below.refl _ _) 1)
        have HBB : Hid (Below wc.heap.size wc wc.drew) := Lib.hid (bdrewN (Below.refl _ _) 1)
        generalize wc.drew = D0 at *
        (refine wpAnyH_take (i := 0) (oi := ?_) (v := ?_) ?_ (by kernel_rfl) (by kernel_rfl) (by kernel_rfl) ?_ (Or.inl ⟨?_, ?_⟩) (by assumption) ?_; rotate_left 2; (· (simp only [List.getElem?_toArray, List.getElem?_cons_zero]; first | done | rfl)); (· exact (fun _ _ _ h => h)); (· rfl); (· (intro w hSw; (try dsimp only at hSw); go_simp; (try with_reducible rfl))))
        (try simp only [Act.put, List.setIfInBounds_toArray, List.set_cons_zero, List.set_cons_succ])
        (refine wpAnyH_take (i := 2) (oi := ?_) (v := ?_) ?_ (by kernel_rfl) (by kernel_rfl) (by kernel_rfl) ?_ (Or.inl ⟨?_, ?_⟩) (by assumption) ?_; rotate_left 2; (· (simp only [List.getElem?_toArray, List.getElem?_cons_succ, List.getElem?_cons_zero]; first | done | rfl)); (· exact (fun _ _ _ h => h)); (· rfl); (· (intro w hSw; (try dsimp only at hSw); go_simp; (try with_reducible rfl))))
        (try simp only [Act.put, List.setIfInBounds_toArray, List.set_cons_zero, List.set_cons_succ])
        refine wpAnyH_ready (rs := [1, 4, 5]) (by kernel_rfl) (by simp) ?_
        refine AllReadyH.cons (o := ?_) ?_ (fun K hK => ?_) ?_
        rotate_left 1
        · (simp only [List.getElem?_toArray, List.getElem?_cons_succ, List.getElem?_cons_zero]; first | done | rfl)
        rotate_left 1
        refine AllReadyH.cons (o := ?_) ?_ (fun K hK => ?_) ?_
        rotate_left 1
        · (simp only [List.getElem?_toArray, List.getElem?_cons_succ, List.getElem?_cons_zero]; first | done | rfl)
        rotate_left 1
        refine AllReadyH.cons (o := ?_) ?_ (fun K hK => ?_) AllReadyH.nil
        rotate_left 1
        · (simp only [List.getElem?_toArray, List.getElem?_cons_succ, List.getElem?_cons_zero]; first | done | rfl)
        rotate_left 1
        · skip
          go_simp
          go_at_call 31
          refine (HNO1.out _ HBB.out).mono ?_
          rintro e D1 ⟨n1, cn1, rfl, hc, hb⟩
          first | (refine hK.out _ _ ?_ (fun hq1 => ?_)) | (go_wp2_with fail; refine hK.out _ _ ?_ (fun hq1 => ?_))
          · exact HSALL.out _ (btrans HBB.out hb)
          clear hK K
          (try simp only [Act.put, List.setIfInBounds_toArray, List.set_cons_zero, List.set_cons_succ])
          clear hq0
          replace HBB := Lib.hid (btrans HBB.out hb)
          clear hb
          have HC1 := Lib.hid hc; clear hc
          refine wpAnyH_ready (rs := [3, 4, 5]) (by kernel_rfl) (by simp) ?_
          refine AllReadyH.cons (o := ?_) ?_ (fun K hK => ?_) ?_
          rotate_left 1
          · (simp only [List.getElem?_toArray, List.getElem?_cons_succ, List.getElem?_cons_zero]; first | done | rfl)
          rotate_left 1
          refine AllReadyH.cons (o := ?_) ?_ (fun K hK => ?_) ?_
          rotate_left 1
          · (simp only [List.getElem?_toArray, List.getElem?_cons_succ, List.getElem?_cons_zero]; first | done | rfl)
          rotate_left 1
          refine AllReadyH.cons (o := ?_) ?_ (fun K hK => ?_) AllReadyH.nil
          rotate_left 1
          · (simp only [List.getElem?_toArray, List.getElem?_cons_succ, List.getElem?_cons_zero]; first | done | rfl)
          rotate_left 1
          · skip
            go_simp
            go_at_call 31
            refine (HNO2.out _ HBB.out).mono ?_
            rintro e D2 ⟨n2, cn2, rfl, hc, hb⟩
            first | (refine hK.out _ _ ?_ (fun hq2 => ?_)) | (go_wp2_with fail; refine hK.out _ _ ?_ (fun hq2 => ?_))
            · exact HSALL.out _ (btrans HBB.out hb)
            clear hK K
            (try simp only [Act.put, List.setIfInBounds_toArray, List.set_cons_zero, List.set_cons_succ])
            clear hq1
            replace HC1 := Lib.hid (HC1.out.below hb)
            replace HBB := Lib.hid (btrans HBB.out hb)
            clear hb
            have HC2 := Lib.hid hc; clear hc
            refine wpAnyH_ready (rs := [4, 5]) (by kernel_rfl) (by simp) ?_
            refine AllReadyH.cons (o := ?_) ?_ (fun K hK => ?_) ?_
            rotate_left 1
            · (simp only [List.getElem?_toArray, List.getElem?_cons_succ, List.getElem?_cons_zero]; first | done | rfl)
            rotate_left 1
            refine AllReadyH.cons (o := ?_) ?_ (fun K hK => ?_) AllReadyH.nil
            rotate_left 1
            · (simp only [List.getElem?_toArray, List.getElem?_cons_succ, List.getElem?_cons_zero]; first | done | rfl)
            rotate_left 1
            · skip
              go_simp
              refine hK.out _ _ ?_ (fun hq3 => ?_)
              · exact HSALL.out _ (btrans HBB.out (balloc _ _))
              clear hK K
              (try simp only [Act.put, List.setIfInBounds_toArray, List.set_cons_zero, List.set_cons_succ])
              clear hq2
              generalize hD : World.alloc D2 _ = D3 at hq3 ⊢
              have hb : Below D2.heap.size D2 D3 := by rw [← hD]; exact balloc _ _
              have Npn : Hid (NewBox D3 D2.heap.size) := Lib.hid (by rw [← hD]; exact newbox_alloc D2)
              have lepn : wc.heap.size ≤ D2.heap.size := HBB.out.size
              clear hD
              replace HC1 := Lib.hid (HC1.out.below hb)
              replace HC2 := Lib.hid (HC2.out.below hb)
              replace HBB := Lib.hid (btrans HBB.out hb)
              clear hb
              generalize D2.heap.size = pn at *
              refine wpAnyH_ready (rs := [5]) (by kernel_rfl) (by simp) ?_
              refine AllReadyH.cons (o := ?_) ?_ (fun K hK => ?_) AllReadyH.nil
              rotate_left 1
              · (simp only [List.getElem?_toArray, List.getElem?_cons_succ, List.getElem?_cons_zero]; first | done | rfl)
              go_simp
              refine hK.out _ _ ?_ (fun hq4 => ?_)
              · exact HSALL.out _ (btrans HBB.out (balloc _ _))
              clear hK K
              (try simp only [Act.put, List.setIfInBounds_toArray, List.set_cons_zero, List.set_cons_succ])
              clear hq3
              generalize hD : World.alloc D3 _ = D4 at hq4 ⊢
              have hb : Below D3.heap.size D3 D4 := by rw [← hD]; exact balloc _ _
              have Npm : Hid (NewBox D4 D3.heap.size) := Lib.hid (by rw [← hD]; exact newbox_alloc D3)
              have lepm : wc.heap.size ≤ D3.heap.size := HBB.out.size
              have nepn_pm : pn ≠ D3.heap.size := Nat.ne_of_lt Npn.out.lt
              clear hD
              replace HC1 := Lib.hid (HC1.out.below hb)
              replace HC2 := Lib.hid (HC2.out.below hb)
              replace Npn := Lib.hid (Npn.out.low hb)
              replace HBB := Lib.hid (btrans HBB.out hb)
              clear hb
              generalize D3.heap.size = pm at *
              refine wpAnyH_ready (rs := [6]) (by kernel_rfl) (by simp) ?_
              refine AllReadyH.cons (o := ?_) ?_ (fun K hK => ?_) AllReadyH.nil
              rotate_left 1
              · (simp only [List.getElem?_toArray, List.getElem?_cons_succ, List.getElem?_cons_zero]; first | done | rfl)
              obtain ⟨k0, k1, k2, k3⟩ := Npn.out.cells
              have k4 := Npn.out.lt
              go_simp
              refine hK.out _ _ ?_ (fun hq5 => ?_)
              · exact HSALL.out _ (below_put HBB.out lepn _ _ _ _)
              clear hK K
              (try simp only [Act.put, List.setIfInBounds_toArray, List.set_cons_zero, List.set_cons_succ])
              clear hq4
              clear k0 k1 k2 k3 k4
              generalize hD : World.setCell (World.setCell D4 _ _) _ _ = D5 at hq5 ⊢
              have hp : D5 = putF D4 pn s1 n1 N1.length cn1 := hD.symm
              clear hD
              have HC12 := Lib.hid (conds_put Npn.out HC1.out s1 n1 N1.length cn1); rw [← hp] at HC12; clear HC1; have HC1 := HC12; clear HC12
              have HC22 := Lib.hid (conds_put Npn.out HC2.out s1 n1 N1.length cn1); rw [← hp] at HC22; clear HC2; have HC2 := HC22; clear HC22
              have Npm2 := Lib.hid (newbox_far Npm.out (show pm ≠ pn by omega) s1 n1 N1.length cn1); rw [← hp] at Npm2; clear Npm; have Npm := Npm2; clear Npm2
              have Bpn := Lib.hid (newbox_put Npn.out s1 n1 N1.length cn1); rw [← hp] at Bpn
              have HB2 := Lib.hid (below_put HBB.out lepn s1 n1 N1.length cn1); rw [← hp] at HB2; clear HBB; have HBB := HB2; clear HB2
              clear Npn hp
              refine wpAnyH_ready (rs := [7]) (by kernel_rfl) (by simp) ?_
              refine AllReadyH.cons (o := ?_) ?_ (fun K hK => ?_) AllReadyH.nil
              rotate_left 1
              · (simp only [List.getElem?_toArray, List.getElem?_cons_succ, List.getElem?_cons_zero]; first | done | rfl)
              obtain ⟨k0, k1, k2, k3⟩ := Npm.out.cells
              have k4 := Npm.out.lt
              go_simp
              refine hK.out _ _ ?_ (fun hq6 => ?_)
              · exact HSALL.out _ (below_put HBB.out lepm _ _ _ _)
              clear hK K
              (try simp only [Act.put, List.setIfInBounds_toArray, List.set_cons_zero, List.set_cons_succ])
              clear hq5
              clear k0 k1 k2 k3 k4
              generalize hD : World.setCell (World.setCell D5 _ _) _ _ = D6 at hq6 ⊢
              have hp : D6 = putF D5 pm s2 n2 N2.length cn2 := hD.symm
              clear hD
              have HC12 := Lib.hid (conds_put Npm.out HC1.out s2 n2 N2.length cn2); rw [← hp] at HC12; clear HC1; have HC1 := HC12; clear HC12
              have HC22 := Lib.hid (conds_put Npm.out HC2.out s2 n2 N2.length cn2); rw [← hp] at HC22; clear HC2; have HC2 := HC22; clear HC22
              have Bpn2 := Lib.hid (box2_far Bpn.out (show pn ≠ pm by omega) s2 n2 N2.length cn2); rw [← hp] at Bpn2; clear Bpn; have Bpn := Bpn2; clear Bpn2
              have Bpm := Lib.hid (newbox_put Npm.out s2 n2 N2.length cn2); rw [← hp] at Bpm
              have HB2 := Lib.hid (below_put HBB.out lepm s2 n2 N2.length cn2); rw [← hp] at HB2; clear HBB; have HBB := HB2; clear HB2
              clear Npm hp
              refine wpAnyH_done (by kernel_rfl) ?_ _
              go_wp2_with fail
              go_meet
              exact ⟨pn, pm, n1, cn1, n2, cn2, rfl, rfl, Bpn, Bpm, HC1, HC2, HBB⟩
            · skip
              go_simp
              refine hK.out _ _ ?_ (fun hq3 => ?_)
              · exact HSALL.out _ (btrans HBB.out (balloc _ _))
              clear hK K
              (try simp only [Act.put, List.setIfInBounds_toArray, List.set_cons_zero, List.set_cons_succ])
              clear hq2
              generalize hD : World.alloc D2 _ = D7 at hq3 ⊢
              have hb : Below D2.heap.size D2 D7 := by rw [← hD]; exact balloc _ _
              have Npm : Hid (NewBox D7 D2.heap.size) := Lib.hid (by rw [← hD]; exact newbox_alloc D2)
              have lepm : wc.heap.size ≤ D2.heap.size := HBB.out.size
              clear hD
              replace HC1 := Lib.hid (HC1.out.below hb)
              replace HC2 := Lib.hid (HC2.out.below hb)
              replace HBB := Lib.hid (btrans HBB.out hb)
              clear hb
              generalize D2.heap.size = pm at *
              refine wpAnyH_ready (rs := [4]) (by kernel_rfl) (by simp) ?_
              refine AllReadyH.cons (o := ?_) ?_ (fun K hK => ?_) AllReadyH.nil
              rotate_left 1
              · (simp only [List.getElem?_toArray, List.getElem?_cons_succ, List.getElem?_cons_zero]; first | done | rfl)
              go_simp
              refine hK.out _ _ ?_ (fun hq4 => ?_)
              · exact HSALL.out _ (btrans HBB.out (balloc _ _))
              clear hK K
              (try simp only [Act.put, List.setIfInBounds_toArray, List.set_cons_zero, List.set_cons_succ])
              clear hq3
              generalize hD : World.alloc D7 _ = D8 at hq4 ⊢
              have hb : Below D7.heap.size D7 D8 := by rw [← hD]; exact balloc _ _
              have Npn : Hid (NewBox D8 D7.heap.size) := Lib.hid (by rw [← hD]; exact newbox_alloc D7)
              have lepn : wc.heap.size ≤ D7.heap.size := HBB.out.size
              have nepm_pn : pm ≠ D7.heap.size := Nat.ne_of_lt Npm.out.lt
              clear hD
              replace HC1 := Lib.hid (HC1.out.below hb)
              replace HC2 := Lib.hid (HC2.out.below hb)
              replace Npm := Lib.hid (Npm.out.low hb)
              replace HBB := Lib.hid (btrans HBB.out hb)
              clear hb
              generalize D7.heap.size = pn at *
              refine wpAnyH_ready (rs := [6]) (by kernel_rfl) (by simp) ?_
              refine AllReadyH.cons (o := ?_) ?_ (fun K hK => ?_) AllReadyH.nil
              rotate_left 1
              · (simp only [List.getElem?_toArray, List.getElem?_cons_succ, List.getElem?_cons_zero]; first | done | rfl)
              obtain ⟨k0, k1, k2, k3⟩ := Npn.out.cells
              have k4 := Npn.out.lt
              go_simp
              refine hK.out _ _ ?_ (fun hq5 => ?_)
              · exact HSALL.out _ (below_put HBB.out lepn _ _ _ _)
              clear hK K
              (try simp only [Act.put, List.setIfInBounds_toArray, List.set_cons_zero, List.set_cons_succ])
              clear hq4
              clear k0 k1 k2 k3 k4
              generalize hD : World.setCell (World.setCell D8 _ _) _ _ = D9 at hq5 ⊢
              have hp : D9 = putF D8 pn s1 n1 N1.length cn1 := hD.symm
              clear hD
              have HC12 := Lib.hid (conds_put Npn.out HC1.out s1 n1 N1.length cn1); rw [← hp] at HC12; clear HC1; have HC1 := HC12; clear HC12
              have HC22 := Lib.hid (conds_put Npn.out HC2.out s1 n1 N1.length cn1); rw [← hp] at HC22; clear HC2; have HC2 := HC22; clear HC22
              have Npm2 := Lib.hid (newbox_far Npm.out (show pm ≠ pn by omega) s1 n1 N1.length cn1); rw [← hp] at Npm2; clear Npm; have Npm := Npm2; clear Npm2
              have Bpn := Lib.hid (newbox_put Npn.out s1 n1 N1.length cn1); rw [← hp] at Bpn
              have HB2 := Lib.hid (below_put HBB.out lepn s1 n1 N1.length cn1); rw [← hp] at HB2; clear HBB; have HBB := HB2; clear HB2
              clear Npn hp
              refine wpAnyH_ready (rs := [7]) (by kernel_rfl) (by simp) ?_
              refine AllReadyH.cons (o := ?_) ?_ (fun K hK => ?_) AllReadyH.nil
              rotate_left 1
              · (simp only [List.getElem?_toArray, List.getElem?_cons_succ, List.getElem?_cons_zero]; first | done | rfl)
              obtain ⟨k0, k1, k2, k3⟩ := Npm.out.cells
              have k4 := Npm.out.lt
              go_simp
              refine hK.out _ _ ?_ (fun hq6 => ?_)
              · exact HSALL.out _ (below_put HBB.out lepm _ _ _ _)
              clear hK K
              (try simp only [Act.put, List.setIfInBounds_toArray, List.set_cons_zero, List.set_cons_succ])
              clear hq5
              clear k0 k1 k2 k3 k4
              generalize hD : World.setCell (World.setCell D9 _ _) _ _ = D10 at hq6 ⊢
              have hp : D10 = putF D9 pm s2 n2 N2.length cn2 := hD.symm
              clear hD
              have HC12 := Lib.hid (conds_put Npm.out HC1.out s2 n2 N2.length cn2); rw [← hp] at HC12; clear HC1; have HC1 := HC12; clear HC12
              have HC22 := Lib.hid (conds_put Npm.out HC2.out s2 n2 N2.length cn2); rw [← hp] at HC22; clear HC2; have HC2 := HC22; clear HC22
              have Bpn2 := Lib.hid (box2_far Bpn.out (show pn ≠ pm by omega) s2 n2 N2.length cn2); rw [← hp] at Bpn2; clear Bpn; have Bpn := Bpn2; clear Bpn2
              have Bpm := Lib.hid (newbox_put Npm.out s2 n2 N2.length cn2); rw [← hp] at Bpm
              have HB2 := Lib.hid (below_put HBB.out lepm s2 n2 N2.length cn2); rw [← hp] at HB2; clear HBB; have HBB := HB2; clear HB2
              clear Npm hp
              refine wpAnyH_done (by kernel_rfl) ?_ _
              go_wp2_with fail
              go_meet
              exact ⟨pn, pm, n1, cn1, n2, cn2, rfl, rfl, Bpn, Bpm, HC1, HC2, HBB⟩
          · skip
            go_simp
            refine hK.out _ _ ?_ (fun hq2 => ?_)
            · exact HSALL.out _ (btrans HBB.out (balloc _ _))
            clear hK K
            (try simp only [Act.put, List.setIfInBounds_toArray, List.set_cons_zero, List.set_cons_succ])
            clear hq1
            generalize hD : World.alloc D1 _ = D11 at hq2 ⊢
            have hb : Below D1.heap.size D1 D11 := by rw [← hD]; exact balloc _ _
            have Npn : Hid (NewBox D11 D1.heap.size) := Lib.hid (by rw [← hD]; exact newbox_alloc D1)
            have lepn : wc.heap.size ≤ D1.heap.size := HBB.out.size
            clear hD
            replace HC1 := Lib.hid (HC1.out.below hb)
            replace HBB := Lib.hid (btrans HBB.out hb)
            clear hb
            generalize D1.heap.size = pn at *
            refine wpAnyH_ready (rs := [3, 5]) (by kernel_rfl) (by simp) ?_
            refine AllReadyH.cons (o := ?_) ?_ (fun K hK => ?_) ?_
            rotate_left 1
            · (simp only [List.getElem?_toArray, List.getElem?_cons_succ, List.getElem?_cons_zero]; first | done | rfl)
            rotate_left 1
            refine AllReadyH.cons (o := ?_) ?_ (fun K hK => ?_) AllReadyH.nil
            rotate_left 1
            · (simp only [List.getElem?_toArray, List.getElem?_cons_succ, List.getElem?_cons_zero]; first | done | rfl)
            rotate_left 1
            · skip
              go_simp
              go_at_call 31
              refine (HNO2.out _ HBB.out).mono ?_
              rintro e D12 ⟨n2, cn2, rfl, hc, hb⟩
              first | (refine hK.out _ _ ?_ (fun hq3 => ?_)) | (go_wp2_with fail; refine hK.out _ _ ?_ (fun hq3 => ?_))
              · exact HSALL.out _ (btrans HBB.out hb)
              clear hK K
              (try simp only [Act.put, List.setIfInBounds_toArray, List.set_cons_zero, List.set_cons_succ])
              clear hq2
              replace HC1 := Lib.hid (HC1.out.below hb)
              replace Npn := Lib.hid (Npn.out.low hb)
              replace HBB := Lib.hid (btrans HBB.out hb)
              clear hb
              have HC2 := Lib.hid hc; clear hc
              refine wpAnyH_ready (rs := [5]) (by kernel_rfl) (by simp) ?_
              refine AllReadyH.cons (o := ?_) ?_ (fun K hK => ?_) AllReadyH.nil
              rotate_left 1
              · (simp only [List.getElem?_toArray, List.getElem?_cons_succ, List.getElem?_cons_zero]; first | done | rfl)
              go_simp
              refine hK.out _ _ ?_ (fun hq4 => ?_)
              · exact HSALL.out _ (btrans HBB.out (balloc _ _))
              clear hK K
              (try simp only [Act.put, List.setIfInBounds_toArray, List.set_cons_zero, List.set_cons_succ])
              clear hq3
              generalize hD : World.alloc D12 _ = D13 at hq4 ⊢
              have hb : Below D12.heap.size D12 D13 := by rw [← hD]; exact balloc _ _
              have Npm : Hid (NewBox D13 D12.heap.size) := Lib.hid (by rw [← hD]; exact newbox_alloc D12)
              have lepm : wc.heap.size ≤ D12.heap.size := HBB.out.size
              have nepn_pm : pn ≠ D12.heap.size := Nat.ne_of_lt Npn.out.lt
              clear hD
              replace HC1 := Lib.hid (HC1.out.below hb)
              replace Npn := Lib.hid (Npn.out.low hb)
              replace HC2 := Lib.hid (HC2.out.below hb)
              replace HBB := Lib.hid (btrans HBB.out hb)
              clear hb
              generalize D12.heap.size = pm at *
              refine wpAnyH_ready (rs := [6]) (by kernel_rfl) (by simp) ?_
              refine AllReadyH.cons (o := ?_) ?_ (fun K hK => ?_) AllReadyH.nil
              rotate_left 1
              · (simp only [List.getElem?_toArray, List.getElem?_cons_succ, List.getElem?_cons_zero]; first | done | rfl)
              obtain ⟨k0, k1, k2, k3⟩ := Npn.out.cells
              have k4 := Npn.out.lt
              go_simp
              refine hK.out _ _ ?_ (fun hq5 => ?_)
              · exact HSALL.out _ (below_put HBB.out lepn _ _ _ _)
              clear hK K
              (try simp only [Act.put, List.setIfInBounds_toArray, List.set_cons_zero, List.set_cons_succ])
              clear hq4
              clear k0 k1 k2 k3 k4
              generalize hD : World.setCell (World.setCell D13 _ _) _ _ = D14 at hq5 ⊢
              have hp : D14 = putF D13 pn s1 n1 N1.length cn1 := hD.symm
              clear hD
              have HC12 := Lib.hid (conds_put Npn.out HC1.out s1 n1 N1.length cn1); rw [← hp] at HC12; clear HC1; have HC1 := HC12; clear HC12
              have HC22 := Lib.hid (conds_put Npn.out HC2.out s1 n1 N1.length cn1); rw [← hp] at HC22; clear HC2; have HC2 := HC22; clear HC22
              have Npm2 := Lib.hid (newbox_far Npm.out (show pm ≠ pn by omega) s1 n1 N1.length cn1); rw [← hp] at Npm2; clear Npm; have Npm := Npm2; clear Npm2
              have Bpn := Lib.hid (newbox_put Npn.out s1 n1 N1.length cn1); rw [← hp] at Bpn
              have HB2 := Lib.hid (below_put HBB.out lepn s1 n1 N1.length cn1); rw [← hp] at HB2; clear HBB; have HBB := HB2; clear HB2
              clear Npn hp
              refine wpAnyH_ready (rs := [7]) (by kernel_rfl) (by simp) ?_
              refine AllReadyH.cons (o := ?_) ?_ (fun K hK => ?_) AllReadyH.nil
              rotate_left 1
              · (simp only [List.getElem?_toArray, List.getElem?_cons_succ, List.getElem?_cons_zero]; first | done | rfl)
              obtain ⟨k0, k1, k2, k3⟩ := Npm.out.cells
              have k4 := Npm.out.lt
              go_simp
              refine hK.out _ _ ?_ (fun hq6 => ?_)
              · exact HSALL.out _ (below_put HBB.out lepm _ _ _ _)
              clear hK K
              (try simp only [Act.put, List.setIfInBounds_toArray, List.set_cons_zero, List.set_cons_succ])
              clear hq5
              clear k0 k1 k2 k3 k4
              generalize hD : World.setCell (World.setCell D14 _ _) _ _ = D15 at hq6 ⊢
              have hp : D15 = putF D14 pm s2 n2 N2.length cn2 := hD.symm
              clear hD
              have HC12 := Lib.hid (conds_put Npm.out HC1.out s2 n2 N2.length cn2); rw [← hp] at HC12; clear HC1; have HC1 := HC12; clear HC12
              have HC22 := Lib.hid (conds_put Npm.out HC2.out s2 n2 N2.length cn2); rw [← hp] at HC22; clear HC2; have HC2 := HC22; clear HC22
              have Bpn2 := Lib.hid (box2_far Bpn.out (show pn ≠ pm by omega) s2 n2 N2.length cn2); rw [← hp] at Bpn2; clear Bpn; have Bpn := Bpn2; clear Bpn2
              have Bpm := Lib.hid (newbox_put Npm.out s2 n2 N2.length cn2); rw [← hp] at Bpm
              have HB2 := Lib.hid (below_put HBB.out lepm s2 n2 N2.length cn2); rw [← hp] at HB2; clear HBB; have HBB := HB2; clear HB2
              clear Npm hp
              refine wpAnyH_done (by kernel_rfl) ?_ _
              go_wp2_with fail
              go_meet
              exact ⟨pn, pm, n1, cn1, n2, cn2, rfl, rfl, Bpn, Bpm, HC1, HC2, HBB⟩
            · skip
              go_simp
              refine hK.out _ _ ?_ (fun hq3 => ?_)
              · exact HSALL.out _ (btrans HBB.out (balloc _ _))
              clear hK K
              (try simp only [Act.put, List.setIfInBounds_toArray, List.set_cons_zero, List.set_cons_succ])
              clear hq2
              generalize hD : World.alloc D11 _ = D16 at hq3 ⊢
              have hb : Below D11.heap.size D11 D16 := by rw [← hD]; exact balloc _ _
              have Npm : Hid (NewBox D16 D11.heap.size) := Lib.hid (by rw [← hD]; exact newbox_alloc D11)
              have lepm : wc.heap.size ≤ D11.heap.size := HBB.out.size
              have nepn_pm : pn ≠ D11.heap.size := Nat.ne_of_lt Npn.out.lt
              clear hD
              replace HC1 := Lib.hid (HC1.out.below hb)
              replace Npn := Lib.hid (Npn.out.low hb)
              replace HBB := Lib.hid (btrans HBB.out hb)
              clear hb
              generalize D11.heap.size = pm at *
              refine wpAnyH_ready (rs := [3]) (by kernel_rfl) (by simp) ?_
              refine AllReadyH.cons (o := ?_) ?_ (fun K hK => ?_) AllReadyH.nil
              rotate_left 1
              · (simp only [List.getElem?_toArray, List.getElem?_cons_succ, List.getElem?_cons_zero]; first | done | rfl)
              go_simp
              go_at_call 31
              refine (HNO2.out _ HBB.out).mono ?_
              rintro e D17 ⟨n2, cn2, rfl, hc, hb⟩
              first | (refine hK.out _ _ ?_ (fun hq4 => ?_)) | (go_wp2_with fail; refine hK.out _ _ ?_ (fun hq4 => ?_))
              · exact HSALL.out _ (btrans HBB.out hb)
              clear hK K
              (try simp only [Act.put, List.setIfInBounds_toArray, List.set_cons_zero, List.set_cons_succ])
              clear hq3
              replace HC1 := Lib.hid (HC1.out.below hb)
              replace Npn := Lib.hid (Npn.out.low hb)
              replace Npm := Lib.hid (Npm.out.low hb)
              replace HBB := Lib.hid (btrans HBB.out hb)
              clear hb
              have HC2 := Lib.hid hc; clear hc
              refine wpAnyH_ready (rs := [6]) (by kernel_rfl) (by simp) ?_
              refine AllReadyH.cons (o := ?_) ?_ (fun K hK => ?_) AllReadyH.nil
              rotate_left 1
              · (simp only [List.getElem?_toArray, List.getElem?_cons_succ, List.getElem?_cons_zero]; first | done | rfl)
              obtain ⟨k0, k1, k2, k3⟩ := Npn.out.cells
              have k4 := Npn.out.lt
              go_simp
              refine hK.out _ _ ?_ (fun hq5 => ?_)
              · exact HSALL.out _ (below_put HBB.out lepn _ _ _ _)
              clear hK K
              (try simp only [Act.put, List.setIfInBounds_toArray, List.set_cons_zero, List.set_cons_succ])
              clear hq4
              clear k0 k1 k2 k3 k4
              generalize hD : World.setCell (World.setCell D17 _ _) _ _ = D18 at hq5 ⊢
              have hp : D18 = putF D17 pn s1 n1 N1.length cn1 := hD.symm
              clear hD
              have HC12 := Lib.hid (conds_put Npn.out HC1.out s1 n1 N1.length cn1); rw [← hp] at HC12; clear HC1; have HC1 := HC12; clear HC12
              have Npm2 := Lib.hid (newbox_far Npm.out (show pm ≠ pn by omega) s1 n1 N1.length cn1); rw [← hp] at Npm2; clear Npm; have Npm := Npm2; clear Npm2
              have HC22 := Lib.hid (conds_put Npn.out HC2.out s1 n1 N1.length cn1); rw [← hp] at HC22; clear HC2; have HC2 := HC22; clear HC22
              have Bpn := Lib.hid (newbox_put Npn.out s1 n1 N1.length cn1); rw [← hp] at Bpn
              have HB2 := Lib.hid (below_put HBB.out lepn s1 n1 N1.length cn1); rw [← hp] at HB2; clear HBB; have HBB := HB2; clear HB2
              clear Npn hp
              refine wpAnyH_ready (rs := [7]) (by kernel_rfl) (by simp) ?_
              refine AllReadyH.cons (o := ?_) ?_ (fun K hK => ?_) AllReadyH.nil
              rotate_left 1
              · (simp only [List.getElem?_toArray, List.getElem?_cons_succ, List.getElem?_cons_zero]; first | done | rfl)
              obtain ⟨k0, k1, k2, k3⟩ := Npm.out.cells
              have k4 := Npm.out.lt
              go_simp
              refine hK.out _ _ ?_ (fun hq6 => ?_)
              · exact HSALL.out _ (below_put HBB.out lepm _ _ _ _)
              clear hK K
              (try simp only [Act.put, List.setIfInBounds_toArray, List.set_cons_zero, List.set_cons_succ])
              clear hq5
              clear k0 k1 k2 k3 k4
              generalize hD : World.setCell (World.setCell D18 _ _) _ _ = D19 at hq6 ⊢
              have hp : D19 = putF D18 pm s2 n2 N2.length cn2 := hD.symm
              clear hD
              have HC12 := Lib.hid (conds_put Npm.out HC1.out s2 n2 N2.length cn2); rw [← hp] at HC12; clear HC1; have HC1 := HC12; clear HC12
              have HC22 := Lib.hid (conds_put Npm.out HC2.out s2 n2 N2.length cn2); rw [← hp] at HC22; clear HC2; have HC2 := HC22; clear HC22
              have Bpn2 := Lib.hid (box2_far Bpn.out (show pn ≠ pm by omega) s2 n2 N2.length cn2); rw [← hp] at Bpn2; clear Bpn; have Bpn := Bpn2; clear Bpn2
              have Bpm := Lib.hid (newbox_put Npm.out s2 n2 N2.length cn2); rw [← hp] at Bpm
              have HB2 := Lib.hid (below_put HBB.out lepm s2 n2 N2.length cn2); rw [← hp] at HB2; clear HBB; have HBB := HB2; clear HB2
              clear Npm hp
              refine wpAnyH_done (by kernel_rfl) ?_ _
              go_wp2_with fail
              go_meet
              exact ⟨pn, pm, n1, cn1, n2, cn2, rfl, rfl, Bpn, Bpm, HC1, HC2, HBB⟩
          · skip
            go_simp
            refine hK.out _ _ ?_ (fun hq2 => ?_)
            · exact HSALL.out _ (btrans HBB.out (balloc _ _))
            clear hK K
            (try simp only [Act.put, List.setIfInBounds_toArray, List.set_cons_zero, List.set_cons_succ])
            clear hq1
            generalize hD : World.alloc D1 _ = D20 at hq2 ⊢
            have hb : Below D1.heap.size D1 D20 := by rw [← hD]; exact balloc _ _
            have Npm : Hid (NewBox D20 D1.heap.size) := Lib.hid (by rw [← hD]; exact newbox_alloc D1)
            have lepm : wc.heap.size ≤ D1.heap.size := HBB.out.size
            clear hD
            replace HC1 := Lib.hid (HC1.out.below hb)
            replace HBB := Lib.hid (btrans HBB.out hb)
            clear hb
            generalize D1.heap.size = pm at *
            refine wpAnyH_ready (rs := [3, 4]) (by kernel_rfl) (by simp) ?_
            refine AllReadyH.cons (o := ?_) ?_ (fun K hK => ?_) ?_
            rotate_left 1
            · (simp only [List.getElem?_toArray, List.getElem?_cons_succ, List.getElem?_cons_zero]; first | done | rfl)
            rotate_left 1
            refine AllReadyH.cons (o := ?_) ?_ (fun K hK => ?_) AllReadyH.nil
            rotate_left 1
            · (simp only [List.getElem?_toArray, List.getElem?_cons_succ, List.getElem?_cons_zero]; first | done | rfl)
            rotate_left 1
            · skip
              go_simp
              go_at_call 31
              refine (HNO2.out _ HBB.out).mono ?_
              rintro e D21 ⟨n2, cn2, rfl, hc, hb⟩
              first | (refine hK.out _ _ ?_ (fun hq3 => ?_)) | (go_wp2_with fail; refine hK.out _ _ ?_ (fun hq3 => ?_))
              · exact HSALL.out _ (btrans HBB.out hb)
              clear hK K
              (try simp only [Act.put, List.setIfInBounds_toArray, List.set_cons_zero, List.set_cons_succ])
              clear hq2
              replace HC1 := Lib.hid (HC1.out.below hb)
              replace Npm := Lib.hid (Npm.out.low hb)
              replace HBB := Lib.hid (btrans HBB.out hb)
              clear hb
              have HC2 := Lib.hid hc; clear hc
              refine wpAnyH_ready (rs := [4]) (by kernel_rfl) (by simp) ?_
              refine AllReadyH.cons (o := ?_) ?_ (fun K hK => ?_) AllReadyH.nil
              rotate_left 1
              · (simp only [List.getElem?_toArray, List.getElem?_cons_succ, List.getElem?_cons_zero]; first | done | rfl)
              go_simp
              refine hK.out _ _ ?_ (fun hq4 => ?_)
              · exact HSALL.out _ (btrans HBB.out (balloc _ _))
              clear hK K
              (try simp only [Act.put, List.setIfInBounds_toArray, List.set_cons_zero, List.set_cons_succ])
              clear hq3
              generalize hD : World.alloc D21 _ = D22 at hq4 ⊢
              have hb : Below D21.heap.size D21 D22 := by rw [← hD]; exact balloc _ _
              have Npn : Hid (NewBox D22 D21.heap.size) := Lib.hid (by rw [← hD]; exact newbox_alloc D21)
              have lepn : wc.heap.size ≤ D21.heap.size := HBB.out.size
              have nepm_pn : pm ≠ D21.heap.size := Nat.ne_of_lt Npm.out.lt
              clear hD
              replace HC1 := Lib.hid (HC1.out.below hb)
              replace Npm := Lib.hid (Npm.out.low hb)
              replace HC2 := Lib.hid (HC2.out.below hb)
              replace HBB := Lib.hid (btrans HBB.out hb)
              clear hb
              generalize D21.heap.size = pn at *
              refine wpAnyH_ready (rs := [6]) (by kernel_rfl) (by simp) ?_
              refine AllReadyH.cons (o := ?_) ?_ (fun K hK => ?_) AllReadyH.nil
              rotate_left 1
              · (simp only [List.getElem?_toArray, List.getElem?_cons_succ, List.getElem?_cons_zero]; first | done | rfl)
              obtain ⟨k0, k1, k2, k3⟩ := Npn.out.cells
              have k4 := Npn.out.lt
              go_simp
              refine hK.out _ _ ?_ (fun hq5 => ?_)
              · exact HSALL.out _ (below_put HBB.out lepn _ _ _ _)
              clear hK K
              (try simp only [Act.put, List.setIfInBounds_toArray, List.set_cons_zero, List.set_cons_succ])
              clear hq4
              clear k0 k1 k2 k3 k4
              generalize hD : World.setCell (World.setCell D22 _ _) _ _ = D23 at hq5 ⊢
              have hp : D23 = putF D22 pn s1 n1 N1.length cn1 := hD.symm
              clear hD
              have HC12 := Lib.hid (conds_put Npn.out HC1.out s1 n1 N1.length cn1); rw [← hp] at HC12; clear HC1; have HC1 := HC12; clear HC12
              have Npm2 := Lib.hid (newbox_far Npm.out (show pm ≠ pn by omega) s1 n1 N1.length cn1); rw [← hp] at Npm2; clear Npm; have Npm := Npm2; clear Npm2
              have HC22 := Lib.hid (conds_put Npn.out HC2.out s1 n1 N1.length cn1); rw [← hp] at HC22; clear HC2; have HC2 := HC22; clear HC22
              have Bpn := Lib.hid (newbox_put Npn.out s1 n1 N1.length cn1); rw [← hp] at Bpn
              have HB2 := Lib.hid (below_put HBB.out lepn s1 n1 N1.length cn1); rw [← hp] at HB2; clear HBB; have HBB := HB2; clear HB2
              clear Npn hp
              refine wpAnyH_ready (rs := [7]) (by kernel_rfl) (by simp) ?_
              refine AllReadyH.cons (o := ?_) ?_ (fun K hK => ?_) AllReadyH.nil
              rotate_left 1
              · (simp only [List.getElem?_toArray, List.getElem?_cons_succ, List.getElem?_cons_zero]; first | done | rfl)
              obtain ⟨k0, k1, k2, k3⟩ := Npm.out.cells
              have k4 := Npm.out.lt
              go_simp
              refine hK.out _ _ ?_ (fun hq6 => ?_)
              · exact HSALL.out _ (below_put HBB.out lepm _ _ _ _)
              clear hK K
              (try simp only [Act.put, List.setIfInBounds_toArray, List.set_cons_zero, List.set_cons_succ])
              clear hq5
              clear k0 k1 k2 k3 k4
              generalize hD : World.setCell (World.setCell D23 _ _) _ _ = D24 at hq6 ⊢
              have hp : D24 = putF D23 pm s2 n2 N2.length cn2 := hD.symm
              clear hD
              have HC12 := Lib.hid (conds_put Npm.out HC1.out s2 n2 N2.length cn2); rw [← hp] at HC12; clear HC1; have HC1 := HC12; clear HC12
              have HC22 := Lib.hid (conds_put Npm.out HC2.out s2 n2 N2.length cn2); rw [← hp] at HC22; clear HC2; have HC2 := HC22; clear HC22
              have Bpn2 := Lib.hid (box2_far Bpn.out (show pn ≠ pm by omega) s2 n2 N2.length cn2); rw [← hp] at Bpn2; clear Bpn; have Bpn := Bpn2; clear Bpn2
              have Bpm := Lib.hid (newbox_put Npm.out s2 n2 N2.length cn2); rw [← hp] at Bpm
              have HB2 := Lib.hid (below_put HBB.out lepm s2 n2 N2.length cn2); rw [← hp] at HB2; clear HBB; have HBB := HB2; clear HB2
              clear Npm hp
              refine wpAnyH_done (by kernel_rfl) ?_ _
              go_wp2_with fail
              go_meet
              exact ⟨pn, pm, n1, cn1, n2, cn2, rfl, rfl, Bpn, Bpm, HC1, HC2, HBB⟩
            · skip
              go_simp
              refine hK.out _ _ ?_ (fun hq3 => ?_)
              · exact HSALL.out _ (btrans HBB.out (balloc _ _))
              clear hK K
              (try simp only [Act.put, List.setIfInBounds_toArray, List.set_cons_zero, List.set_cons_succ])
              clear hq2
              generalize hD : World.alloc D20 _ = D25 at hq3 ⊢
              have hb : Below D20.heap.size D20 D25 := by rw [← hD]; exact balloc _ _
              have Npn : Hid (NewBox D25 D20.heap.size) := Lib.hid (by rw [← hD]; exact newbox_alloc D20)
              have lepn : wc.heap.size ≤ D20.heap.size := HBB.out.size
              have nepm_pn : pm ≠ D20.heap.size := Nat.ne_of_lt Npm.out.lt
              clear hD
              replace HC1 := Lib.hid (HC1.out.below hb)
              replace Npm := Lib.hid (Npm.out.low hb)
              replace HBB := Lib.hid (btrans HBB.out hb)
              clear hb
              generalize D20.heap.size = pn at *
              refine wpAnyH_ready (rs := [3]) (by kernel_rfl) (by simp) ?_
              refine AllReadyH.cons (o := ?_) ?_ (fun K hK => ?_) AllReadyH.nil
              rotate_left 1
              · (simp only [List.getElem?_toArray, List.getElem?_cons_succ, List.getElem?_cons_zero]; first | done | rfl)
              go_simp
              go_at_call 31
              refine (HNO2.out _ HBB.out).mono ?_
              rintro e D26 ⟨n2, cn2, rfl, hc, hb⟩
              first | (refine hK.out _ _ ?_ (fun hq4 => ?_)) | (go_wp2_with fail; refine hK.out _ _ ?_ (fun hq4 => ?_))
              · exact HSALL.out _ (btrans HBB.out hb)
              clear hK K
              (try simp only [Act.put, List.setIfInBounds_toArray, List.set_cons_zero, List.set_cons_succ])
              clear hq3
              replace HC1 := Lib.hid (HC1.out.below hb)
              replace Npm := Lib.hid (Npm.out.low hb)
              replace Npn := Lib.hid (Npn.out.low hb)
              replace HBB := Lib.hid (btrans HBB.out hb)
              clear hb
              have HC2 := Lib.hid hc; clear hc
              refine wpAnyH_ready (rs := [6]) (by kernel_rfl) (by simp) ?_
              refine AllReadyH.cons (o := ?_) ?_ (fun K hK => ?_) AllReadyH.nil
              rotate_left 1
              · (simp only [List.getElem?_toArray, List.getElem?_cons_succ, List.getElem?_cons_zero]; first | done | rfl)
              obtain ⟨k0, k1, k2, k3⟩ := Npn.out.cells
              have k4 := Npn.out.lt
              go_simp
              refine hK.out _ _ ?_ (fun hq5 => ?_)
              · exact HSALL.out _ (below_put HBB.out lepn _ _ _ _)
              clear hK K
              (try simp only [Act.put, List.setIfInBounds_toArray, List.set_cons_zero, List.set_cons_succ])
              clear hq4
              clear k0 k1 k2 k3 k4
              generalize hD : World.setCell (World.setCell D26 _ _) _ _ = D27 at hq5 ⊢
              have hp : D27 = putF D26 pn s1 n1 N1.length cn1 := hD.symm
              clear hD
              have HC12 := Lib.hid (conds_put Npn.out HC1.out s1 n1 N1.length cn1); rw [← hp] at HC12; clear HC1; have HC1 := HC12; clear HC12
              have Npm2 := Lib.hid (newbox_far Npm.out (show pm ≠ pn by omega) s1 n1 N1.length cn1); rw [← hp] at Npm2; clear Npm; have Npm := Npm2; clear Npm2
              have HC22 := Lib.hid (conds_put Npn.out HC2.out s1 n1 N1.length cn1); rw [← hp] at HC22; clear HC2; have HC2 := HC22; clear HC22
              have Bpn := Lib.hid (newbox_put Npn.out s1 n1 N1.length cn1); rw [← hp] at Bpn
              have HB2 := Lib.hid (below_put HBB.out lepn s1 n1 N1.length cn1); rw [← hp] at HB2; clear HBB; have HBB := HB2; clear HB2
              clear Npn hp
              refine wpAnyH_ready (rs := [7]) (by kernel_rfl) (by simp) ?_
              refine AllReadyH.cons (o := ?_) ?_ (fun K hK => ?_) AllReadyH.nil
              rotate_left 1
              · (simp only [List.getElem?_toArray, List.getElem?_cons_succ, List.getElem?_cons_zero]; first | done | rfl)
              obtain ⟨k0, k1, k2, k3⟩ := Npm.out.cells
              have k4 := Npm.out.lt
              go_simp
              refine hK.out _ _ ?_ (fun hq6 => ?_)
              · exact HSALL.out _ (below_put HBB.out lepm _ _ _ _)
              clear hK K
              (try simp only [Act.put, List.setIfInBounds_toArray, List.set_cons_zero, List.set_cons_succ])
              clear hq5
              clear k0 k1 k2 k3 k4
              generalize hD : World.setCell (World.setCell D27 _ _) _ _ = D28 at hq6 ⊢
              have hp : D28 = putF D27 pm s2 n2 N2.length cn2 := hD.symm
              clear hD
              have HC12 := Lib.hid (conds_put Npm.out HC1.out s2 n2 N2.length cn2); rw [← hp] at HC12; clear HC1; have HC1 := HC12; clear HC12
              have HC22 := Lib.hid (conds_put Npm.out HC2.out s2 n2 N2.length cn2); rw [← hp] at HC22; clear HC2; have HC2 := HC22; clear HC22
              have Bpn2 := Lib.hid (box2_far Bpn.out (show pn ≠ pm by omega) s2 n2 N2.length cn2); rw [← hp] at Bpn2; clear Bpn; have Bpn := Bpn2; clear Bpn2
              have Bpm := Lib.hid (newbox_put Npm.out s2 n2 N2.length cn2); rw [← hp] at Bpm
              have HB2 := Lib.hid (below_put HBB.out lepm s2 n2 N2.length cn2); rw [← hp] at HB2; clear HBB; have HBB := HB2; clear HB2
              clear Npm hp
              refine wpAnyH_done (by kernel_rfl) ?_ _
              go_wp2_with fail
              go_meet
              exact ⟨pn, pm, n1, cn1, n2, cn2, rfl, rfl, Bpn, Bpm, HC1, HC2, HBB⟩
        · skip
          go_simp
          refine hK.out _ _ ?_ (fun hq1 => ?_)
          · exact HSALL.out _ (btrans HBB.out (balloc _ _))
          clear hK K
          (try simp only [Act.put, List.setIfInBounds_toArray, List.set_cons_zero, List.set_cons_succ])
          clear hq0
          generalize hD : World.alloc D0 _ = D29 at hq1 ⊢
          have hb : Below D0.heap.size D0 D29 := by rw [← hD]; exact balloc _ _
          have Npn : Hid (NewBox D29 D0.heap.size) := Lib.hid (by rw [← hD]; exact newbox_alloc D0)
          have lepn : wc.heap.size ≤ D0.heap.size := HBB.out.size
          clear hD
          replace HBB := Lib.hid (btrans HBB.out hb)
          clear hb
          generalize D0.heap.size = pn at *
          refine wpAnyH_ready (rs := [1, 5]) (by kernel_rfl) (by simp) ?_
          refine AllReadyH.cons (o := ?_) ?_ (fun K hK => ?_) ?_
          rotate_left 1
          · (simp only [List.getElem?_toArray, List.getElem?_cons_succ, List.getElem?_cons_zero]; first | done | rfl)
          rotate_left 1
          refine AllReadyH.cons (o := ?_) ?_ (fun K hK => ?_) AllReadyH.nil
          rotate_left 1
          · (simp only [List.getElem?_toArray, List.getElem?_cons_succ, List.getElem?_cons_zero]; first | done | rfl)
          rotate_left 1
          · skip
            go_simp
            go_at_call 31
            refine (HNO1.out _ HBB.out).mono ?_
            rintro e D30 ⟨n1, cn1, rfl, hc, hb⟩
            first | (refine hK.out _ _ ?_ (fun hq2 => ?_)) | (go_wp2_with fail; refine hK.out _ _ ?_ (fun hq2 => ?_))
            · exact HSALL.out _ (btrans HBB.out hb)
            clear hK K
            (try simp only [Act.put, List.setIfInBounds_toArray, List.set_cons_zero, List.set_cons_succ])
            clear hq1
            replace Npn := Lib.hid (Npn.out.low hb)
            replace HBB := Lib.hid (btrans HBB.out hb)
            clear hb
            have HC1 := Lib.hid hc; clear hc
            refine wpAnyH_ready (rs := [3, 5]) (by kernel_rfl) (by simp) ?_
            refine AllReadyH.cons (o := ?_) ?_ (fun K hK => ?_) ?_
            rotate_left 1
            · (simp only [List.getElem?_toArray, List.getElem?_cons_succ, List.getElem?_cons_zero]; first | done | rfl)
            rotate_left 1
            refine AllReadyH.cons (o := ?_) ?_ (fun K hK => ?_) AllReadyH.nil
            rotate_left 1
            · (simp only [List.getElem?_toArray, List.getElem?_cons_succ, List.getElem?_cons_zero]; first | done | rfl)
            rotate_left 1
            · skip
              go_simp
              go_at_call 31
              refine (HNO2.out _ HBB.out).mono ?_
              rintro e D31 ⟨n2, cn2, rfl, hc, hb⟩
              first | (refine hK.out _ _ ?_ (fun hq3 => ?_)) | (go_wp2_with fail; refine hK.out _ _ ?_ (fun hq3 => ?_))
              · exact HSALL.out _ (btrans HBB.out hb)
              clear hK K
              (try simp only [Act.put, List.setIfInBounds_toArray, List.set_cons_zero, List.set_cons_succ])
              clear hq2
              replace Npn := Lib.hid (Npn.out.low hb)
              replace HC1 := Lib.hid (HC1.out.below hb)
              replace HBB := Lib.hid (btrans HBB.out hb)
              clear hb
              have HC2 := Lib.hid hc; clear hc
              refine wpAnyH_ready (rs := [5]) (by kernel_rfl) (by simp) ?_
              refine AllReadyH.cons (o := ?_) ?_ (fun K hK => ?_) AllReadyH.nil
              rotate_left 1
              · (simp only [List.getElem?_toArray, List.getElem?_cons_succ, List.getElem?_cons_zero]; first | done | rfl)
              go_simp
              refine hK.out _ _ ?_ (fun hq4 => ?_)
              · exact HSALL.out _ (btrans HBB.out (balloc _ _))
              clear hK K
              (try simp only [Act.put, List.setIfInBounds_toArray, List.set_cons_zero, List.set_cons_succ])
              clear hq3
              generalize hD : World.alloc D31 _ = D32 at hq4 ⊢
              have hb : Below D31.heap.size D31 D32 := by rw [← hD]; exact balloc _ _
              have Npm : Hid (NewBox D32 D31.heap.size) := Lib.hid (by rw [← hD]; exact newbox_alloc D31)
              have lepm : wc.heap.size ≤ D31.heap.size := HBB.out.size
              have nepn_pm : pn ≠ D31.heap.size := Nat.ne_of_lt Npn.out.lt
              clear hD
              replace Npn := Lib.hid (Npn.out.low hb)
              replace HC1 := Lib.hid (HC1.out.below hb)
              replace HC2 := Lib.hid (HC2.out.below hb)
              replace HBB := Lib.hid (btrans HBB.out hb)
              clear hb
              generalize D31.heap.size = pm at *
              refine wpAnyH_ready (rs := [6]) (by kernel_rfl) (by simp) ?_
              refine AllReadyH.cons (o := ?_) ?_ (fun K hK => ?_) AllReadyH.nil
              rotate_left 1
              · (simp only [List.getElem?_toArray, List.getElem?_cons_succ, List.getElem?_cons_zero]; first | done | rfl)
              obtain ⟨k0, k1, k2, k3⟩ := Npn.out.cells
              have k4 := Npn.out.lt
              go_simp
              refine hK.out _ _ ?_ (fun hq5 => ?_)
              · exact HSALL.out _ (below_put HBB.out lepn _ _ _ _)
              clear hK K
              (try simp only [Act.put, List.setIfInBounds_toArray, List.set_cons_zero, List.set_cons_succ])
              clear hq4
              clear k0 k1 k2 k3 k4
              generalize hD : World.setCell (World.setCell D32 _ _) _ _ = D33 at hq5 ⊢
              have hp : D33 = putF D32 pn s1 n1 N1.length cn1 := hD.symm
              clear hD
              have HC12 := Lib.hid (conds_put Npn.out HC1.out s1 n1 N1.length cn1); rw [← hp] at HC12; clear HC1; have HC1 := HC12; clear HC12
              have HC22 := Lib.hid (conds_put Npn.out HC2.out s1 n1 N1.length cn1); rw [← hp] at HC22; clear HC2; have HC2 := HC22; clear HC22
              have Npm2 := Lib.hid (newbox_far Npm.out (show pm ≠ pn by omega) s1 n1 N1.length cn1); rw [← hp] at Npm2; clear Npm; have Npm := Npm2; clear Npm2
              have Bpn := Lib.hid (newbox_put Npn.out s1 n1 N1.length cn1); rw [← hp] at Bpn
              have HB2 := Lib.hid (below_put HBB.out lepn s1 n1 N1.length cn1); rw [← hp] at HB2; clear HBB; have HBB := HB2; clear HB2
              clear Npn hp
              refine wpAnyH_ready (rs := [7]) (by kernel_rfl) (by simp) ?_
              refine AllReadyH.cons (o := ?_) ?_ (fun K hK => ?_) AllReadyH.nil
              rotate_left 1
              · (simp only [List.getElem?_toArray, List.getElem?_cons_succ, List.getElem?_cons_zero]; first | done | rfl)
              obtain ⟨k0, k1, k2, k3⟩ := Npm.out.cells
              have k4 := Npm.out.lt
              go_simp
              refine hK.out _ _ ?_ (fun hq6 => ?_)
              · exact HSALL.out _ (below_put HBB.out lepm _ _ _ _)
              clear hK K
              (try simp only [Act.put, List.setIfInBounds_toArray, List.set_cons_zero, List.set_cons_succ])
              clear hq5
              clear k0 k1 k2 k3 k4
              generalize hD : World.setCell (World.setCell D33 _ _) _ _ = D34 at hq6 ⊢
              have hp : D34 = putF D33 pm s2 n2 N2.length cn2 := hD.symm
              clear hD
              have HC12 := Lib.hid (conds_put Npm.out HC1.out s2 n2 N2.length cn2); rw [← hp] at HC12; clear HC1; have HC1 := HC12; clear HC12
              have HC22 := Lib.hid (conds_put Npm.out HC2.out s2 n2 N2.length cn2); rw [← hp] at HC22; clear HC2; have HC2 := HC22; clear HC22
              have Bpn2 := Lib.hid (box2_far Bpn.out (show pn ≠ pm by omega) s2 n2 N2.length cn2); rw [← hp] at Bpn2; clear Bpn; have Bpn := Bpn2; clear Bpn2
              have Bpm := Lib.hid (newbox_put Npm.out s2 n2 N2.length cn2); rw [← hp] at Bpm
              have HB2 := Lib.hid (below_put HBB.out lepm s2 n2 N2.length cn2); rw [← hp] at HB2; clear HBB; have HBB := HB2; clear HB2
              clear Npm hp
              refine wpAnyH_done (by kernel_rfl) ?_ _
              go_wp2_with fail
              go_meet
              exact ⟨pn, pm, n1, cn1, n2, cn2, rfl, rfl, Bpn, Bpm, HC1, HC2, HBB⟩
            · skip
              go_simp
              refine hK.out _ _ ?_ (fun hq3 => ?_)
              · exact HSALL.out _ (btrans HBB.out (balloc _ _))
              clear hK K
              (try simp only [Act.put, List.setIfInBounds_toArray, List.set_cons_zero, List.set_cons_succ])
              clear hq2
              generalize hD : World.alloc D30 _ = D35 at hq3 ⊢
              have hb : Below D30.heap.size D30 D35 := by rw [← hD]; exact balloc _ _
              have Npm : Hid (NewBox D35 D30.heap.size) := Lib.hid (by rw [← hD]; exact newbox_alloc D30)
              have lepm : wc.heap.size ≤ D30.heap.size := HBB.out.size
              have nepn_pm : pn ≠ D30.heap.size := Nat.ne_of_lt Npn.out.lt
              clear hD
              replace Npn := Lib.hid (Npn.out.low hb)
              replace HC1 := Lib.hid (HC1.out.below hb)
              replace HBB := Lib.hid (btrans HBB.out hb)
              clear hb
              generalize D30.heap.size = pm at *
              refine wpAnyH_ready (rs := [3]) (by kernel_rfl) (by simp) ?_
              refine AllReadyH.cons (o := ?_) ?_ (fun K hK => ?_) AllReadyH.nil
              rotate_left 1
              · (simp only [List.getElem?_toArray, List.getElem?_cons_succ, List.getElem?_cons_zero]; first | done | rfl)
              go_simp
              go_at_call 31
              refine (HNO2.out _ HBB.out).mono ?_
              rintro e D36 ⟨n2, cn2, rfl, hc, hb⟩
              first | (refine hK.out _ _ ?_ (fun hq4 => ?_)) | (go_wp2_with fail; refine hK.out _ _ ?_ (fun hq4 => ?_))
              · exact HSALL.out _ (btrans HBB.out hb)
              clear hK K
              (try simp only [Act.put, List.setIfInBounds_toArray, List.set_cons_zero, List.set_cons_succ])
              clear hq3
              replace Npn := Lib.hid (Npn.out.low hb)
              replace HC1 := Lib.hid (HC1.out.below hb)
              replace Npm := Lib.hid (Npm.out.low hb)
              replace HBB := Lib.hid (btrans HBB.out hb)
              clear hb
              have HC2 := Lib.hid hc; clear hc
              refine wpAnyH_ready (rs := [6]) (by kernel_rfl) (by simp) ?_
              refine AllReadyH.cons (o := ?_) ?_ (fun K hK => ?_) AllReadyH.nil
              rotate_left 1
              · (simp only [List.getElem?_toArray, List.getElem?_cons_succ, List.getElem?_cons_zero]; first | done | rfl)
              obtain ⟨k0, k1, k2, k3⟩ := Npn.out.cells
              have k4 := Npn.out.lt
              go_simp
              refine hK.out _ _ ?_ (fun hq5 => ?_)
              · exact HSALL.out _ (below_put HBB.out lepn _ _ _ _)
              clear hK K
              (try simp only [Act.put, List.setIfInBounds_toArray, List.set_cons_zero, List.set_cons_succ])
              clear hq4
              clear k0 k1 k2 k3 k4
              generalize hD : World.setCell (World.setCell D36 _ _) _ _ = D37 at hq5 ⊢
              have hp : D37 = putF D36 pn s1 n1 N1.length cn1 := hD.symm
              clear hD
              have HC12 := Lib.hid (conds_put Npn.out HC1.out s1 n1 N1.length cn1); rw [← hp] at HC12; clear HC1; have HC1 := HC12; clear HC12
              have Npm2 := Lib.hid (newbox_far Npm.out (show pm ≠ pn by omega) s1 n1 N1.length cn1); rw [← hp] at Npm2; clear Npm; have Npm := Npm2; clear Npm2
              have HC22 := Lib.hid (conds_put Npn.out HC2.out s1 n1 N1.length cn1); rw [← hp] at HC22; clear HC2; have HC2 := HC22; clear HC22
              have Bpn := Lib.hid (newbox_put Npn.out s1 n1 N1.length cn1); rw [← hp] at Bpn
              have HB2 := Lib.hid (below_put HBB.out lepn s1 n1 N1.length cn1); rw [← hp] at HB2; clear HBB; have HBB := HB2; clear HB2
              clear Npn hp
              refine wpAnyH_ready (rs := [7]) (by kernel_rfl) (by simp) ?_
              refine AllReadyH.cons (o := ?_) ?_ (fun K hK => ?_) AllReadyH.nil
              rotate_left 1
              · (simp only [List.getElem?_toArray, List.getElem?_cons_succ, List.getElem?_cons_zero]; first | done | rfl)
              obtain ⟨k0, k1, k2, k3⟩ := Npm.out.cells
              have k4 := Npm.out.lt
              go_simp
              refine hK.out _ _ ?_ (fun hq6 => ?_)
              · exact HSALL.out _ (below_put HBB.out lepm _ _ _ _)
              clear hK K
              (try simp only [Act.put, List.setIfInBounds_toArray, List.set_cons_zero, List.set_cons_succ])
              clear hq5
              clear k0 k1 k2 k3 k4
              generalize hD : World.setCell (World.setCell D37 _ _) _ _ = D38 at hq6 ⊢
              have hp : D38 = putF D37 pm s2 n2 N2.length cn2 := hD.symm
              clear hD
              have HC12 := Lib.hid (conds_put Npm.out HC1.out s2 n2 N2.length cn2); rw [← hp] at HC12; clear HC1; have HC1 := HC12; clear HC12
              have HC22 := Lib.hid (conds_put Npm.out HC2.out s2 n2 N2.length cn2); rw [← hp] at HC22; clear HC2; have HC2 := HC22; clear HC22
              have Bpn2 := Lib.hid (box2_far Bpn.out (show pn ≠ pm by omega) s2 n2 N2.length cn2); rw [← hp] at Bpn2; clear Bpn; have Bpn := Bpn2; clear Bpn2
              have Bpm := Lib.hid (newbox_put Npm.out s2 n2 N2.length cn2); rw [← hp] at Bpm
              have HB2 := Lib.hid (below_put HBB.out lepm s2 n2 N2.length cn2); rw [← hp] at HB2; clear HBB; have HBB := HB2; clear HB2
              clear Npm hp
              refine wpAnyH_done (by kernel_rfl) ?_ _
              go_wp2_with fail
              go_meet
              exact ⟨pn, pm, n1, cn1, n2, cn2, rfl, rfl, Bpn, Bpm, HC1, HC2, HBB⟩
          · skip
            go_simp
            refine hK.out _ _ ?_ (fun hq2 => ?_)
            · exact HSALL.out _ (btrans HBB.out (balloc _ _))
            clear hK K
            (try simp only [Act.put, List.setIfInBounds_toArray, List.set_cons_zero, List.set_cons_succ])
            clear hq1
            generalize hD : World.alloc D29 _ = D39 at hq2 ⊢
            have hb : Below D29.heap.size D29 D39 := by rw [← hD]; exact balloc _ _
            have Npm : Hid (NewBox D39 D29.heap.size) := Lib.hid (by rw [← hD]; exact newbox_alloc D29)
            have lepm : wc.heap.size ≤ D29.heap.size := HBB.out.size
            have nepn_pm : pn ≠ D29.heap.size := Nat.ne_of_lt Npn.out.lt
            clear hD
            replace Npn := Lib.hid (Npn.out.low hb)
            replace HBB := Lib.hid (btrans HBB.out hb)
            clear hb
            generalize D29.heap.size = pm at *
            refine wpAnyH_ready (rs := [1]) (by kernel_rfl) (by simp) ?_
            refine AllReadyH.cons (o := ?_) ?_ (fun K hK => ?_) AllReadyH.nil
            rotate_left 1
            · (simp only [List.getElem?_toArray, List.getElem?_cons_succ, List.getElem?_cons_zero]; first | done | rfl)
            go_simp
            go_at_call 31
            refine (HNO1.out _ HBB.out).mono ?_
            rintro e D40 ⟨n1, cn1, rfl, hc, hb⟩
            first | (refine hK.out _ _ ?_ (fun hq3 => ?_)) | (go_wp2_with fail; refine hK.out _ _ ?_ (fun hq3 => ?_))
            · exact HSALL.out _ (btrans HBB.out hb)
            clear hK K
            (try simp only [Act.put, List.setIfInBounds_toArray, List.set_cons_zero, List.set_cons_succ])
            clear hq2
            replace Npn := Lib.hid (Npn.out.low hb)
            replace Npm := Lib.hid (Npm.out.low hb)
            replace HBB := Lib.hid (btrans HBB.out hb)
            clear hb
            have HC1 := Lib.hid hc; clear hc
            refine wpAnyH_ready (rs := [3]) (by kernel_rfl) (by simp) ?_
            refine AllReadyH.cons (o := ?_) ?_ (fun K hK => ?_) AllReadyH.nil
            rotate_left 1
            · (simp only [List.getElem?_toArray, List.getElem?_cons_succ, List.getElem?_cons_zero]; first | done | rfl)
            go_simp
            go_at_call 31
            refine (HNO2.out _ HBB.out).mono ?_
            rintro e D41 ⟨n2, cn2, rfl, hc, hb⟩
            first | (refine hK.out _ _ ?_ (fun hq4 => ?_)) | (go_wp2_with fail; refine hK.out _ _ ?_ (fun hq4 => ?_))
            · exact HSALL.out _ (btrans HBB.out hb)
            clear hK K
            (try simp only [Act.put, List.setIfInBounds_toArray, List.set_cons_zero, List.set_cons_succ])
            clear hq3
            replace Npn := Lib.hid (Npn.out.low hb)
            replace Npm := Lib.hid (Npm.out.low hb)
            replace HC1 := Lib.hid (HC1.out.below hb)
            replace HBB := Lib.hid (btrans HBB.out hb)
            clear hb
            have HC2 := Lib.hid hc; clear hc
            refine wpAnyH_ready (rs := [6]) (by kernel_rfl) (by simp) ?_
            refine AllReadyH.cons (o := ?_) ?_ (fun K hK => ?_) AllReadyH.nil
            rotate_left 1
            · (simp only [List.getElem?_toArray, List.getElem?_cons_succ, List.getElem?_cons_zero]; first | done | rfl)
            obtain ⟨k0, k1, k2, k3⟩ := Npn.out.cells
            have k4 := Npn.out.lt
            go_simp
            refine hK.out _ _ ?_ (fun hq5 => ?_)
            · exact HSALL.out _ (below_put HBB.out lepn _ _ _ _)
            clear hK K
            (try simp only [Act.put, List.setIfInBounds_toArray, List.set_cons_zero, List.set_cons_succ])
            clear hq4
            clear k0 k1 k2 k3 k4
            generalize hD : World.setCell (World.setCell D41 _ _) _ _ = D42 at hq5 ⊢
            have hp : D42 = putF D41 pn s1 n1 N1.length cn1 := hD.symm
            clear hD
            have Npm2 := Lib.hid (newbox_far Npm.out (show pm ≠ pn by omega) s1 n1 N1.length cn1); rw [← hp] at Npm2; clear Npm; have Npm := Npm2; clear Npm2
            have HC12 := Lib.hid (conds_put Npn.out HC1.out s1 n1 N1.length cn1); rw [← hp] at HC12; clear HC1; have HC1 := HC12; clear HC12
            have HC22 := Lib.hid (conds_put Npn.out HC2.out s1 n1 N1.length cn1); rw [← hp] at HC22; clear HC2; have HC2 := HC22; clear HC22
            have Bpn := Lib.hid (newbox_put Npn.out s1 n1 N1.length cn1); rw [← hp] at Bpn
            have HB2 := Lib.hid (below_put HBB.out lepn s1 n1 N1.length cn1); rw [← hp] at HB2; clear HBB; have HBB := HB2; clear HB2
            clear Npn hp
            refine wpAnyH_ready (rs := [7]) (by kernel_rfl) (by simp) ?_
            refine AllReadyH.cons (o := ?_) ?_ (fun K hK => ?_) AllReadyH.nil
            rotate_left 1
            · (simp only [List.getElem?_toArray, List.getElem?_cons_succ, List.getElem?_cons_zero]; first | done | rfl)
            obtain ⟨k0, k1, k2, k3⟩ := Npm.out.cells
            have k4 := Npm.out.lt
            go_simp
            refine hK.out _ _ ?_ (fun hq6 => ?_)
            · exact HSALL.out _ (below_put HBB.out lepm _ _ _ _)
            clear hK K
            (try simp only [Act.put, List.setIfInBounds_toArray, List.set_cons_zero, List.set_cons_succ])
            clear hq5
            clear k0 k1 k2 k3 k4
            generalize hD : World.setCell (World.setCell D42 _ _) _ _ = D43 at hq6 ⊢
            have hp : D43 = putF D42 pm s2 n2 N2.length cn2 := hD.symm
            clear hD
            have HC12 := Lib.hid (conds_put Npm.out HC1.out s2 n2 N2.length cn2); rw [← hp] at HC12; clear HC1; have HC1 := HC12; clear HC12
            have HC22 := Lib.hid (conds_put Npm.out HC2.out s2 n2 N2.length cn2); rw [← hp] at HC22; clear HC2; have HC2 := HC22; clear HC22
            have Bpn2 := Lib.hid (box2_far Bpn.out (show pn ≠ pm by omega) s2 n2 N2.length cn2); rw [← hp] at Bpn2; clear Bpn; have Bpn := Bpn2; clear Bpn2
            have Bpm := Lib.hid (newbox_put Npm.out s2 n2 N2.length cn2); rw [← hp] at Bpm
            have HB2 := Lib.hid (below_put HBB.out lepm s2 n2 N2.length cn2); rw [← hp] at HB2; clear HBB; have HBB := HB2; clear HB2
            clear Npm hp
            refine wpAnyH_done (by kernel_rfl) ?_ _
            go_wp2_with fail
            go_meet
            exact ⟨pn, pm, n1, cn1, n2, cn2, rfl, rfl, Bpn, Bpm, HC1, HC2, HBB⟩
        · skip
          go_simp
          refine hK.out _ _ ?_ (fun hq1 => ?_)
          · exact HSALL.out _ (btrans HBB.out (balloc _ _))
          clear hK K
          (try simp only [Act.put, List.setIfInBounds_toArray, List.set_cons_zero, List.set_cons_succ])
          clear hq0
          generalize hD : World.alloc D0 _ = D44 at hq1 ⊢
          have hb : Below D0.heap.size D0 D44 := by rw [← hD]; exact balloc _ _
          have Npm : Hid (NewBox D44 D0.heap.size) := Lib.hid (by rw [← hD]; exact newbox_alloc D0)
          have lepm : wc.heap.size ≤ D0.heap.size := HBB.out.size
          clear hD
          replace HBB := Lib.hid (btrans HBB.out hb)
          clear hb
          generalize D0.heap.size = pm at *
          refine wpAnyH_ready (rs := [1, 4]) (by kernel_rfl) (by simp) ?_
          refine AllReadyH.cons (o := ?_) ?_ (fun K hK => ?_) ?_
          rotate_left 1
          · (simp only [List.getElem?_toArray, List.getElem?_cons_succ, List.getElem?_cons_zero]; first | done | rfl)
          rotate_left 1
          refine AllReadyH.cons (o := ?_) ?_ (fun K hK => ?_) AllReadyH.nil
          rotate_left 1
          · (simp only [List.getElem?_toArray, List.getElem?_cons_succ, List.getElem?_cons_zero]; first | done | rfl)
          rotate_left 1
          · skip
            go_simp
            go_at_call 31
            refine (HNO1.out _ HBB.out).mono ?_
            rintro e D45 ⟨n1, cn1, rfl, hc, hb⟩
            first | (refine hK.out _ _ ?_ (fun hq2 => ?_)) | (go_wp2_with fail; refine hK.out _ _ ?_ (fun hq2 => ?_))
            · exact HSALL.out _ (btrans HBB.out hb)
            clear hK K
            (try simp only [Act.put, List.setIfInBounds_toArray, List.set_cons_zero, List.set_cons_succ])
            clear hq1
            replace Npm := Lib.hid (Npm.out.low hb)
            replace HBB := Lib.hid (btrans HBB.out hb)
            clear hb
            have HC1 := Lib.hid hc; clear hc
            refine wpAnyH_ready (rs := [3, 4]) (by kernel_rfl) (by simp) ?_
            refine AllReadyH.cons (o := ?_) ?_ (fun K hK => ?_) ?_
            rotate_left 1
            · (simp only [List.getElem?_toArray, List.getElem?_cons_succ, List.getElem?_cons_zero]; first | done | rfl)
            rotate_left 1
            refine AllReadyH.cons (o := ?_) ?_ (fun K hK => ?_) AllReadyH.nil
            rotate_left 1
            · (simp only [List.getElem?_toArray, List.getElem?_cons_succ, List.getElem?_cons_zero]; first | done | rfl)
            rotate_left 1
            · skip
              go_simp
              go_at_call 31
              refine (HNO2.out _ HBB.out).mono ?_
              rintro e D46 ⟨n2, cn2, rfl, hc, hb⟩
              first | (refine hK.out _ _ ?_ (fun hq3 => ?_)) | (go_wp2_with fail; refine hK.out _ _ ?_ (fun hq3 => ?_))
              · exact HSALL.out _ (btrans HBB.out hb)
              clear hK K
              (try simp only [Act.put, List.setIfInBounds_toArray, List.set_cons_zero, List.set_cons_succ])
              clear hq2
              replace Npm := Lib.hid (Npm.out.low hb)
              replace HC1 := Lib.hid (HC1.out.below hb)
              replace HBB := Lib.hid (btrans HBB.out hb)
              clear hb
              have HC2 := Lib.hid hc; clear hc
              refine wpAnyH_ready (rs := [4]) (by kernel_rfl) (by simp) ?_
              refine AllReadyH.cons (o := ?_) ?_ (fun K hK => ?_) AllReadyH.nil
              rotate_left 1
              · (simp only [List.getElem?_toArray, List.getElem?_cons_succ, List.getElem?_cons_zero]; first | done | rfl)
              go_simp
              refine hK.out _ _ ?_ (fun hq4 => ?_)
              · exact HSALL.out _ (btrans HBB.out (balloc _ _))
              clear hK K
              (try simp only [Act.put, List.setIfInBounds_toArray, List.set_cons_zero, List.set_cons_succ])
              clear hq3
              generalize hD : World.alloc D46 _ = D47 at hq4 ⊢
              have hb : Below D46.heap.size D46 D47 := by rw [← hD]; exact balloc _ _
              have Npn : Hid (NewBox D47 D46.heap.size) := Lib.hid (by rw [← hD]; exact newbox_alloc D46)
              have lepn : wc.heap.size ≤ D46.heap.size := HBB.out.size
              have nepm_pn : pm ≠ D46.heap.size := Nat.ne_of_lt Npm.out.lt
              clear hD
              replace Npm := Lib.hid (Npm.out.low hb)
              replace HC1 := Lib.hid (HC1.out.below hb)
              replace HC2 := Lib.hid (HC2.out.below hb)
              replace HBB := Lib.hid (btrans HBB.out hb)
              clear hb
              generalize D46.heap.size = pn at *
              refine wpAnyH_ready (rs := [6]) (by kernel_rfl) (by simp) ?_
              refine AllReadyH.cons (o := ?_) ?_ (fun K hK => ?_) AllReadyH.nil
              rotate_left 1
              · (simp only [List.getElem?_toArray, List.getElem?_cons_succ, List.getElem?_cons_zero]; first | done | rfl)
              obtain ⟨k0, k1, k2, k3⟩ := Npn.out.cells
              have k4 := Npn.out.lt
              go_simp
              refine hK.out _ _ ?_ (fun hq5 => ?_)
              · exact HSALL.out _ (below_put HBB.out lepn _ _ _ _)
              clear hK K
              (try simp only [Act.put, List.setIfInBounds_toArray, List.set_cons_zero, List.set_cons_succ])
              clear hq4
              clear k0 k1 k2 k3 k4
              generalize hD : World.setCell (World.setCell D47 _ _) _ _ = D48 at hq5 ⊢
              have hp : D48 = putF D47 pn s1 n1 N1.length cn1 := hD.symm
              clear hD
              have Npm2 := Lib.hid (newbox_far Npm.out (show pm ≠ pn by omega) s1 n1 N1.length cn1); rw [← hp] at Npm2; clear Npm; have Npm := Npm2; clear Npm2
              have HC12 := Lib.hid (conds_put Npn.out HC1.out s1 n1 N1.length cn1); rw [← hp] at HC12; clear HC1; have HC1 := HC12; clear HC12
              have HC22 := Lib.hid (conds_put Npn.out HC2.out s1 n1 N1.length cn1); rw [← hp] at HC22; clear HC2; have HC2 := HC22; clear HC22
              have Bpn := Lib.hid (newbox_put Npn.out s1 n1 N1.length cn1); rw [← hp] at Bpn
              have HB2 := Lib.hid (below_put HBB.out lepn s1 n1 N1.length cn1); rw [← hp] at HB2; clear HBB; have HBB := HB2; clear HB2
              clear Npn hp
              refine wpAnyH_ready (rs := [7]) (by kernel_rfl) (by simp) ?_
              refine AllReadyH.cons (o := ?_) ?_ (fun K hK => ?_) AllReadyH.nil
              rotate_left 1
              · (simp only [List.getElem?_toArray, List.getElem?_cons_succ, List.getElem?_cons_zero]; first | done | rfl)
              obtain ⟨k0, k1, k2, k3⟩ := Npm.out.cells
              have k4 := Npm.out.lt
              go_simp
              refine hK.out _ _ ?_ (fun hq6 => ?_)
              · exact HSALL.out _ (below_put HBB.out lepm _ _ _ _)
              clear hK K
              (try simp only [Act.put, List.setIfInBounds_toArray, List.set_cons_zero, List.set_cons_succ])
              clear hq5
              clear k0 k1 k2 k3 k4
              generalize hD : World.setCell (World.setCell D48 _ _) _ _ = D49 at hq6 ⊢
              have hp : D49 = putF D48 pm s2 n2 N2.length cn2 := hD.symm
              clear hD
              have HC12 := Lib.hid (conds_put Npm.out HC1.out s2 n2 N2.length cn2); rw [← hp] at HC12; clear HC1; have HC1 := HC12; clear HC12
              have HC22 := Lib.hid (conds_put Npm.out HC2.out s2 n2 N2.length cn2); rw [← hp] at HC22; clear HC2; have HC2 := HC22; clear HC22
              have Bpn2 := Lib.hid (box2_far Bpn.out (show pn ≠ pm by omega) s2 n2 N2.length cn2); rw [← hp] at Bpn2; clear Bpn; have Bpn := Bpn2; clear Bpn2
              have Bpm := Lib.hid (newbox_put Npm.out s2 n2 N2.length cn2); rw [← hp] at Bpm
              have HB2 := Lib.hid (below_put HBB.out lepm s2 n2 N2.length cn2); rw [← hp] at HB2; clear HBB; have HBB := HB2; clear HB2
              clear Npm hp
              refine wpAnyH_done (by kernel_rfl) ?_ _
              go_wp2_with fail
              go_meet
              exact ⟨pn, pm, n1, cn1, n2, cn2, rfl, rfl, Bpn, Bpm, HC1, HC2, HBB⟩
            · skip
              go_simp
              refine hK.out _ _ ?_ (fun hq3 => ?_)
              · exact HSALL.out _ (btrans HBB.out (balloc _ _))
              clear hK K
              (try simp only [Act.put, List.setIfInBounds_toArray, List.set_cons_zero, List.set_cons_succ])
              clear hq2
              generalize hD : World.alloc D45 _ = D50 at hq3 ⊢
              have hb : Below D45.heap.size D45 D50 := by rw [← hD]; exact balloc _ _
              have Npn : Hid (NewBox D50 D45.heap.size) := Lib.hid (by rw [← hD]; exact newbox_alloc D45)
              have lepn : wc.heap.size ≤ D45.heap.size := HBB.out.size
              have nepm_pn : pm ≠ D45.heap.size := Nat.ne_of_lt Npm.out.lt
              clear hD
              replace Npm := Lib.hid (Npm.out.low hb)
              replace HC1 := Lib.hid (HC1.out.below hb)
              replace HBB := Lib.hid (btrans HBB.out hb)
              clear hb
              generalize D45.heap.size = pn at *
              refine wpAnyH_ready (rs := [3]) (by kernel_rfl) (by simp) ?_
              refine AllReadyH.cons (o := ?_) ?_ (fun K hK => ?_) AllReadyH.nil
              rotate_left 1
              · (simp only [List.getElem?_toArray, List.getElem?_cons_succ, List.getElem?_cons_zero]; first | done | rfl)
              go_simp
              go_at_call 31
              refine (HNO2.out _ HBB.out).mono ?_
              rintro e D51 ⟨n2, cn2, rfl, hc, hb⟩
              first | (refine hK.out _ _ ?_ (fun hq4 => ?_)) | (go_wp2_with fail; refine hK.out _ _ ?_ (fun hq4 => ?_))
              · exact HSALL.out _ (btrans HBB.out hb)
              clear hK K
              (try simp only [Act.put, List.setIfInBounds_toArray, List.set_cons_zero, List.set_cons_succ])
              clear hq3
              replace Npm := Lib.hid (Npm.out.low hb)
              replace HC1 := Lib.hid (HC1.out.below hb)
              replace Npn := Lib.hid (Npn.out.low hb)
              replace HBB := Lib.hid (btrans HBB.out hb)
              clear hb
              have HC2 := Lib.hid hc; clear hc
              refine wpAnyH_ready (rs := [6]) (by kernel_rfl) (by simp) ?_
              refine AllReadyH.cons (o := ?_) ?_ (fun K hK => ?_) AllReadyH.nil
              rotate_left 1
              · (simp only [List.getElem?_toArray, List.getElem?_cons_succ, List.getElem?_cons_zero]; first | done | rfl)
              obtain ⟨k0, k1, k2, k3⟩ := Npn.out.cells
              have k4 := Npn.out.lt
              go_simp
              refine hK.out _ _ ?_ (fun hq5 => ?_)
              · exact HSALL.out _ (below_put HBB.out lepn _ _ _ _)
              clear hK K
              (try simp only [Act.put, List.setIfInBounds_toArray, List.set_cons_zero, List.set_cons_succ])
              clear hq4
              clear k0 k1 k2 k3 k4
              generalize hD : World.setCell (World.setCell D51 _ _) _ _ = D52 at hq5 ⊢
              have hp : D52 = putF D51 pn s1 n1 N1.length cn1 := hD.symm
              clear hD
              have Npm2 := Lib.hid (newbox_far Npm.out (show pm ≠ pn by omega) s1 n1 N1.length cn1); rw [← hp] at Npm2; clear Npm; have Npm := Npm2; clear Npm2
              have HC12 := Lib.hid (conds_put Npn.out HC1.out s1 n1 N1.length cn1); rw [← hp] at HC12; clear HC1; have HC1 := HC12; clear HC12
              have HC22 := Lib.hid (conds_put Npn.out HC2.out s1 n1 N1.length cn1); rw [← hp] at HC22; clear HC2; have HC2 := HC22; clear HC22
              have Bpn := Lib.hid (newbox_put Npn.out s1 n1 N1.length cn1); rw [← hp] at Bpn
              have HB2 := Lib.hid (below_put HBB.out lepn s1 n1 N1.length cn1); rw [← hp] at HB2; clear HBB; have HBB := HB2; clear HB2
              clear Npn hp
              refine wpAnyH_ready (rs := [7]) (by kernel_rfl) (by simp) ?_
              refine AllReadyH.cons (o := ?_) ?_ (fun K hK => ?_) AllReadyH.nil
              rotate_left 1
              · (simp only [List.getElem?_toArray, List.getElem?_cons_succ, List.getElem?_cons_zero]; first | done | rfl)
              obtain ⟨k0, k1, k2, k3⟩ := Npm.out.cells
              have k4 := Npm.out.lt
              go_simp
              refine hK.out _ _ ?_ (fun hq6 => ?_)
              · exact HSALL.out _ (below_put HBB.out lepm _ _ _ _)
              clear hK K
              (try simp only [Act.put, List.setIfInBounds_toArray, List.set_cons_zero, List.set_cons_succ])
              clear hq5
              clear k0 k1 k2 k3 k4
              generalize hD : World.setCell (World.setCell D52 _ _) _ _ = D53 at hq6 ⊢
              have hp : D53 = putF D52 pm s2 n2 N2.length cn2 := hD.symm
              clear hD
              have HC12 := Lib.hid (conds_put Npm.out HC1.out s2 n2 N2.length cn2); rw [← hp] at HC12; clear HC1; have HC1 := HC12; clear HC12
              have HC22 := Lib.hid (conds_put Npm.out HC2.out s2 n2 N2.length cn2); rw [← hp] at HC22; clear HC2; have HC2 := HC22; clear HC22
              have Bpn2 := Lib.hid (box2_far Bpn.out (show pn ≠ pm by omega) s2 n2 N2.length cn2); rw [← hp] at Bpn2; clear Bpn; have Bpn := Bpn2; clear Bpn2
              have Bpm := Lib.hid (newbox_put Npm.out s2 n2 N2.length cn2); rw [← hp] at Bpm
              have HB2 := Lib.hid (below_put HBB.out lepm s2 n2 N2.length cn2); rw [← hp] at HB2; clear HBB; have HBB := HB2; clear HB2
              clear Npm hp
              refine wpAnyH_done (by kernel_rfl) ?_ _
              go_wp2_with fail
              go_meet
              exact ⟨pn, pm, n1, cn1, n2, cn2, rfl, rfl, Bpn, Bpm, HC1, HC2, HBB⟩
          · skip
            go_simp
            refine hK.out _ _ ?_ (fun hq2 => ?_)
            · exact HSALL.out _ (btrans HBB.out (balloc _ _))
            clear hK K
            (try simp only [Act.put, List.setIfInBounds_toArray, List.set_cons_zero, List.set_cons_succ])
            clear hq1
            generalize hD : World.alloc D44 _ = D54 at hq2 ⊢
            have hb : Below D44.heap.size D44 D54 := by rw [← hD]; exact balloc _ _
            have Npn : Hid (NewBox D54 D44.heap.size) := Lib.hid (by rw [← hD]; exact newbox_alloc D44)
            have lepn : wc.heap.size ≤ D44.heap.size := HBB.out.size
            have nepm_pn : pm ≠ D44.heap.size := Nat.ne_of_lt Npm.out.lt
            clear hD
            replace Npm := Lib.hid (Npm.out.low hb)
            replace HBB := Lib.hid (btrans HBB.out hb)
            clear hb
            generalize D44.heap.size = pn at *
            refine wpAnyH_ready (rs := [1]) (by kernel_rfl) (by simp) ?_
            refine AllReadyH.cons (o := ?_) ?_ (fun K hK => ?_) AllReadyH.nil
            rotate_left 1
            · (simp only [List.getElem?_toArray, List.getElem?_cons_succ, List.getElem?_cons_zero]; first | done | rfl)
            go_simp
            go_at_call 31
            refine (HNO1.out _ HBB.out).mono ?_
            rintro e D55 ⟨n1, cn1, rfl, hc, hb⟩
            first | (refine hK.out _ _ ?_ (fun hq3 => ?_)) | (go_wp2_with fail; refine hK.out _ _ ?_ (fun hq3 => ?_))
            · exact HSALL.out _ (btrans HBB.out hb)
            clear hK K
            (try simp only [Act.put, List.setIfInBounds_toArray, List.set_cons_zero, List.set_cons_succ])
            clear hq2
            replace Npm := Lib.hid (Npm.out.low hb)
            replace Npn := Lib.hid (Npn.out.low hb)
            replace HBB := Lib.hid (btrans HBB.out hb)
            clear hb
            have HC1 := Lib.hid hc; clear hc
            refine wpAnyH_ready (rs := [3]) (by kernel_rfl) (by simp) ?_
            refine AllReadyH.cons (o := ?_) ?_ (fun K hK => ?_) AllReadyH.nil
            rotate_left 1
            · (simp only [List.getElem?_toArray, List.getElem?_cons_succ, List.getElem?_cons_zero]; first | done | rfl)
            go_simp
            go_at_call 31
            refine (HNO2.out _ HBB.out).mono ?_
            rintro e D56 ⟨n2, cn2, rfl, hc, hb⟩
            first | (refine hK.out _ _ ?_ (fun hq4 => ?_)) | (go_wp2_with fail; refine hK.out _ _ ?_ (fun hq4 => ?_))
            · exact HSALL.out _ (btrans HBB.out hb)
            clear hK K
            (try simp only [Act.put, List.setIfInBounds_toArray, List.set_cons_zero, List.set_cons_succ])
            clear hq3
            replace Npm := Lib.hid (Npm.out.low hb)
            replace Npn := Lib.hid (Npn.out.low hb)
            replace HC1 := Lib.hid (HC1.out.below hb)
            replace HBB := Lib.hid (btrans HBB.out hb)
            clear hb
            have HC2 := Lib.hid hc; clear hc
            refine wpAnyH_ready (rs := [6]) (by kernel_rfl) (by simp) ?_
            refine AllReadyH.cons (o := ?_) ?_ (fun K hK => ?_) AllReadyH.nil
            rotate_left 1
            · (simp only [List.getElem?_toArray, List.getElem?_cons_succ, List.getElem?_cons_zero]; first | done | rfl)
            obtain ⟨k0, k1, k2, k3⟩ := Npn.out.cells
            have k4 := Npn.out.lt
            go_simp
            refine hK.out _ _ ?_ (fun hq5 => ?_)
            · exact HSALL.out _ (below_put HBB.out lepn _ _ _ _)
            clear hK K
            (try simp only [Act.put, List.setIfInBounds_toArray, List.set_cons_zero, List.set_cons_succ])
            clear hq4
            clear k0 k1 k2 k3 k4
            generalize hD : World.setCell (World.setCell D56 _ _) _ _ = D57 at hq5 ⊢
            have hp : D57 = putF D56 pn s1 n1 N1.length cn1 := hD.symm
            clear hD
            have Npm2 := Lib.hid (newbox_far Npm.out (show pm ≠ pn by omega) s1 n1 N1.length cn1); rw [← hp] at Npm2; clear Npm; have Npm := Npm2; clear Npm2
            have HC12 := Lib.hid (conds_put Npn.out HC1.out s1 n1 N1.length cn1); rw [← hp] at HC12; clear HC1; have HC1 := HC12; clear HC12
            have HC22 := Lib.hid (conds_put Npn.out HC2.out s1 n1 N1.length cn1); rw [← hp] at HC22; clear HC2; have HC2 := HC22; clear HC22
            have Bpn := Lib.hid (newbox_put Npn.out s1 n1 N1.length cn1); rw [← hp] at Bpn
            have HB2 := Lib.hid (below_put HBB.out lepn s1 n1 N1.length cn1); rw [← hp] at HB2; clear HBB; have HBB := HB2; clear HB2
            clear Npn hp
            refine wpAnyH_ready (rs := [7]) (by kernel_rfl) (by simp) ?_
            refine AllReadyH.cons (o := ?_) ?_ (fun K hK => ?_) AllReadyH.nil
            rotate_left 1
            · (simp only [List.getElem?_toArray, List.getElem?_cons_succ, List.getElem?_cons_zero]; first | done | rfl)
            obtain ⟨k0, k1, k2, k3⟩ := Npm.out.cells
            have k4 := Npm.out.lt
            go_simp
            refine hK.out _ _ ?_ (fun hq6 => ?_)
            · exact HSALL.out _ (below_put HBB.out lepm _ _ _ _)
            clear hK K
            (try simp only [Act.put, List.setIfInBounds_toArray, List.set_cons_zero, List.set_cons_succ])
            clear hq5
            clear k0 k1 k2 k3 k4
            generalize hD : World.setCell (World.setCell D57 _ _) _ _ = D58 at hq6 ⊢
            have hp : D58 = putF D57 pm s2 n2 N2.length cn2 := hD.symm
            clear hD
            have HC12 := Lib.hid (conds_put Npm.out HC1.out s2 n2 N2.length cn2); rw [← hp] at HC12; clear HC1; have HC1 := HC12; clear HC12
            have HC22 := Lib.hid (conds_put Npm.out HC2.out s2 n2 N2.length cn2); rw [← hp] at HC22; clear HC2; have HC2 := HC22; clear HC22
            have Bpn2 := Lib.hid (box2_far Bpn.out (show pn ≠ pm by omega) s2 n2 N2.length cn2); rw [← hp] at Bpn2; clear Bpn; have Bpn := Bpn2; clear Bpn2
            have Bpm := Lib.hid (newbox_put Npm.out s2 n2 N2.length cn2); rw [← hp] at Bpm
            have HB2 := Lib.hid (below_put HBB.out lepm s2 n2 N2.length cn2); rw [← hp] at HB2; clear HBB; have HBB := HB2; clear HB2
            clear Npm hp
            refine wpAnyH_done (by kernel_rfl) ?_ _
            go_wp2_with fail
            go_meet
            exact ⟨pn, pm, n1, cn1, n2, cn2, rfl, rfl, Bpn, Bpm, HC1, HC2, HBB⟩
      case rest => as_aux_lemma =>
        obtain ⟨pn, pm, n1, cn1, n2, cn2, rfl, rfl, BN, BM, CN1, CN2, HB9⟩ := hcut
        have HBW := Lib.hid (btrans HBR.out HB9.out)
        have BA3 := Lib.hid (BA2.out.below HB9.out)
        have cl1 := HC1.out.below HBW.out
        have hca : ∀ W, Below wc.heap.size wc W → Calls Tryz.prog 19 #[ev s1 n1 N1.length cn1, ev s1 a1 l1.length c1] W fun e w' => e = .returned (.bool true) ∧ Below W.heap.size W w' := fun W hb => by
          have := fcovers_any s1 n1 cn1 N1 s1 a1 c1 l1 W (CN1.out.below hb) (cl1.below hb) (by omega) (by omega) z1 z1 (fun c h => (HSC1.out c h).2) (fun c h => (HSC1.out c h).1.2.2.1) NN1.out
          rw [NC1.out.1] at this; exact this
        have hcb : ∀ W, Below wc.heap.size wc W → Calls Tryz.prog 19 #[ev s1 a1 l1.length c1, ev s1 n1 N1.length cn1] W fun e w' => e = .returned (.bool true) ∧ Below W.heap.size W w' := fun W hb => by
          have := fcovers_any s1 a1 c1 l1 s1 n1 cn1 N1 W (cl1.below hb) (CN1.out.below hb) (by omega) (by omega) z1 z1 NO1.out NN1.out (fun c h => (HSC1.out c h).1.2.2.1)
          rw [NC1.out.2] at this; exact this
        have hcc : ∀ W, Below wc.heap.size wc W → Calls Tryz.prog 19 #[ev s1 n1 N1.length cn1, ev s2 n2 N2.length cn2] W fun e w' => e = .returned (.bool X) ∧ Below W.heap.size W w' := fun W hb => by
          have := fcovers_any s1 n1 cn1 N1 s2 n2 cn2 N2 W (CN1.out.below hb) (CN2.out.below hb) (by omega) (by omega) z1 z2 NO2.out NN2.out NN1.out
          rw [NC2.out] at this; exact this
        have HCA := Lib.hid hca; have HCB := Lib.hid hcb; have HCC := Lib.hid hcc
        have HBZ := Lib.hid (Below.refl wc.heap.size wc)
        clear BA2 BB2 HB9 HNO1 HNO2 HSALL HBR hca hcb hcc cl1 CN1 CN2 NC1 NC2 NO1 NN1 NO2 NN2 HC1 HC2 HSC1 HSC2
        obtain ⟨x0, x1⟩ := BA3.out
        obtain ⟨y0, y1⟩ := BN.out
        obtain ⟨v0, v1⟩ := BM.out
        cases X
        all_goals
          go_wp2_with fail
          refine (HCA.out _ HBZ.out).mono ?_; rintro e w7 ⟨rfl, hbn⟩; (replace BA3 := Lib.hid (BA3.out.below hbn); replace BN := Lib.hid (BN.out.below hbn); replace BM := Lib.hid (BM.out.below hbn); replace HBZ := Lib.hid (btrans HBZ.out hbn); clear hbn x0 x1 y0 y1 v0 v1; obtain ⟨x0, x1⟩ := BA3.out; obtain ⟨y0, y1⟩ := BN.out; obtain ⟨v0, v1⟩ := BM.out)
          go_wp2_with fail
          refine (HCB.out _ HBZ.out).mono ?_; rintro e w7 ⟨rfl, hbn⟩; (replace BA3 := Lib.hid (BA3.out.below hbn); replace BN := Lib.hid (BN.out.below hbn); replace BM := Lib.hid (BM.out.below hbn); replace HBZ := Lib.hid (btrans HBZ.out hbn); clear hbn x0 x1 y0 y1 v0 v1; obtain ⟨x0, x1⟩ := BA3.out; obtain ⟨y0, y1⟩ := BN.out; obtain ⟨v0, v1⟩ := BM.out)
          go_wp2_with fail
          refine (HCC.out _ HBZ.out).mono ?_; rintro e w7 ⟨rfl, hbn⟩
          go_wp2_with fail
          go_ret
          exact ⟨rfl, btrans (btrans HBW.out HBZ.out) hbn⟩
end Go.Proofs.YtceplbanfpnhbaaGreatDoor.Val
end
