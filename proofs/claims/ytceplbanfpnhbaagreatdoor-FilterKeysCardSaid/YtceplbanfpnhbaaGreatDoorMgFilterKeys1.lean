/- MERGED BY A PROGRAM OF MINE (mgx.py) out of my own texts, in their order: OpenTwoF, BoxNew, Boxes, TwoF, FKeys. -/
import Derived.Test.YtceplbanfpnhbaaGreatDoorMgFilterNorms5
import Derived.Deep.DeepCutAuto
import Derived.Deep.LoopGhost
import Derived.BigRegion

section
/- AN ARRAY OF TWO FILTERS AS AN ARGUMENT. -/
namespace Go.Proofs.YtceplbanfpnhbaaGreatDoor.Open
open Go.ChangeShapes Go.WideShapes Go.ChangeAt Go.RowKit Go.Deep
/-- what is known of a filter that came in -/
def FIn (w : World) (sc : List UInt8) (a0 : Option Addr) (cap : Nat) (l : List Val.C) : Prop :=
  sc.length ≤ 140737488351232 ∧ l.length ≤ cap ∧ cap ≤ maxLen ∧ Val.Conds w a0 l ∧ (∀ x ∈ l, COk x) ∧ (a0 = none → l = [] ∧ cap = 0)
section
variable {H : Type} {enc : TypeId × Value → H} {w : World} {base : Nat} {spare : Nat → Bool} {held : Bool}
set_option maxRecDepth 100000 in
theorem open_twof {r : Reach} {b0 : Nat} {v : Value} {d : DataW H} {p : List MemPlace} (hv : Value.okWide Tryz.prog w r b0 53 v) (h : DataW.Trod enc Tryz.prog w base spare held 53 v d p)
    (hr : ∀ k ∈ DataW.weights Tryz.prog 53 d, k ≤ 140737488351232) :
    ∃ (s1 : List UInt8) (a1 : Option Addr) (c1 : Nat) (l1 : List Val.C) (s2 : List UInt8) (a2 : Option Addr) (c2 : Nat) (l2 : List Val.C),
      v = .agg #[.string ⟨s1.toArray⟩, .slice a1 l1.length c1, .string ⟨s2.toArray⟩, .slice a2 l2.length c2] ∧ FIn w s1 a1 c1 l1 ∧ FIn w s2 a2 c2 l2 := by
  have hu : Tryz.prog.underlying 53 = some (.array 2 24) := Tryz.underlying53
  have hc : Tryz.prog.cellsOf 24 = 2 := by kernel_rfl
  have hc2 : Tryz.prog.cellsOf 53 = 4 := by kernel_rfl
  have hagg : ∃ cs, v = .agg cs := by
    simp only [Value.okWide, hu] at hv
    obtain ⟨cs, h, _⟩ := hv
    exact ⟨cs, h⟩
  obtain ⟨cs, rfl⟩ := hagg
  obtain ⟨fuel, hf⟩ := h
  obtain ⟨xs, m, _, hxd, hl, hx, hi⟩ := DataW.trod_array hu hf
  rw [hc2] at hl
  obtain ⟨l⟩ := cs
  have hl' : l.length = 4 := by simpa [Value.cells] using hl
  have hd : d = .agg (xs.map (·.1)) := congrArg Prod.fst hxd
  have hw : ∀ i (hi : i < xs.length), ∀ k ∈ DataW.weights Tryz.prog 24 (xs[i]).1, k ≤ 140737488351232 := fun i hi k hk => by
    refine hr k ?_
    rw [hd]
    simp only [DataW.weights, hu]
    exact weightsAll_mem (List.mem_map.2 ⟨xs[i], List.getElem_mem hi, rfl⟩) k hk
  have one : ∀ i (hi3 : i < xs.length) (u0 u1 : Value), DataW.trod enc Tryz.prog w base spare held m 24 [u0, u1] = some xs[i] →
      ∃ (sc : List UInt8) (a0 : Option Addr) (cap : Nat) (l : List Val.C), [u0, u1] = [.string ⟨sc.toArray⟩, .slice a0 l.length cap] ∧ FIn w sc a0 cap l := fun i hi3 u0 u1 ht => by
    have hcs := cells_of 3 filter_packed ht (by rw [hc]; rfl)
    rw [filter_leaves] at hcs
    obtain ⟨sc, a0, cap, l, e, rest⟩ := filter_cells (hw i hi3) hcs
    exact ⟨sc, a0, cap, l, e, rest⟩
  match l, hl' with
  | [c0, c1, c2, c3], _ =>
    have h0 := hi 0 (by decide)
    have h1 := hi 1 (by decide)
    have l0 : 0 < xs.length := by omega
    have l1 : 1 < xs.length := by omega
    rw [hc] at h0 h1
    rw [List.getElem?_eq_getElem l0] at h0
    rw [List.getElem?_eq_getElem l1] at h1
    simp only [Value.cells, Nat.zero_mul, Nat.one_mul, List.drop_zero, List.drop_succ_cons, List.take_succ_cons, List.take_zero] at h0 h1
    obtain ⟨s1, a1, p1, m1, e1, f1⟩ := one 0 l0 _ _ h0
    obtain ⟨s2, a2, p2, m2, e2, f2⟩ := one 1 l1 _ _ h1
    simp only [List.cons.injEq, and_true] at e1 e2
    exact ⟨s1, a1, p1, m1, s2, a2, p2, m2, by rw [e1.1, e1.2, e2.1, e2.2], f1, f2⟩
end
end Go.Proofs.YtceplbanfpnhbaaGreatDoor.Open
end

section
/- A FILTER'S BOX THAT IS LAID EARLY, and written late. No walk. -/
namespace Go.Proofs.YtceplbanfpnhbaaGreatDoor.Val
open Go.RowKit Flt
/-- a filter's box, as it is laid -/
def NewBox (W : World) (q : Nat) : Prop := W.heap[q]? = some (.cells #[.string ⟨#[]⟩, .slice none 0 0] 24 (0, 0))
theorem newbox_alloc (W : World) : NewBox (W.alloc (.cells #[.string ⟨#[]⟩, .slice none 0 0] 24)) W.heap.size := by
  show (W.heap.push _)[W.heap.size]? = _
  rw [Array.getElem?_push_size]
theorem NewBox.lt {W : World} {q : Nat} (h : NewBox W q) : q < W.heap.size := by
  by_cases e : q < W.heap.size
  · exact e
  · unfold NewBox at h
    rw [Array.getElem?_eq_none (by omega)] at h; cases h
theorem NewBox.low {W W2 : World} {q : Nat} (h : NewBox W q) (hb : Below W.heap.size W W2) : NewBox W2 q := (hb.block q h.lt).trans h
theorem NewBox.grown {W W2 : World} {q : Nat} {row : Option Nat} (h : NewBox W q) (hg : W.grownBy W2 row) (hne : some q ≠ row) : NewBox W2 q := (hg.block q h.lt hne).trans h
theorem NewBox.cells {W : World} {q : Nat} (h : NewBox W q) : W.cell? ⟨q, 0, none⟩ = some (.string ⟨#[]⟩) ∧ W.cell? ⟨q, 1, none⟩ = some (.slice none 0 0) ∧ W.frozen? ⟨q, 0, none⟩ = false ∧ W.frozen? ⟨q, 1, none⟩ = false := by
  unfold NewBox at h
  refine ⟨?_, ?_, ?_, ?_⟩ <;> simp [World.cell?, World.frozen?, h]
theorem newbox_store {W : World} {q : Nat} (h : NewBox W q) (s : List UInt8) (b : Option Addr) (n cap : Nat) :
    Box2 ((W.setCell ⟨q, 0, none⟩ (.string ⟨s.toArray⟩)).setCell ⟨q, 1, none⟩ (.slice b n cap)) q s b n cap := by
  obtain ⟨c0, c1, _, _⟩ := h.cells
  exact ⟨(World.cell?_setCell_other _ _ _ _ (by simp)).trans (World.cell?_setCell_same _ _ _ c0), World.cell?_setCell_same _ _ _ ((World.cell?_setCell_other _ _ _ _ (by simp)).trans c1)⟩
theorem conds_set {W : World} {b0 : Option Addr} {l : List C} {q o : Nat} (h : Conds W b0 l) (hne : ∀ a, b0 = some a → a.block ≠ q) (u : Value) : Conds (W.setCell ⟨q, o, none⟩ u) b0 l := fun i hi => by
  obtain ⟨a, rfl, h0, h1, h2, h3, h4, h5, h6⟩ := h i hi
  have hq : (a.add (i * 7)).block ≠ q := by
    have : (a.add (i * 7)).block = a.block := by unfold Addr.add; split <;> rfl
    rw [this]; exact hne a rfl
  have k : ∀ p : Addr, p.block = (a.add (i * 7)).block → (W.setCell ⟨q, o, none⟩ u).cell? p = W.cell? p := fun p hp => World.cell?_setCell_other _ _ _ _ (by rintro rfl; exact hq hp.symm)
  exact ⟨_, rfl, (k _ rfl).trans h0, (k ⟨_, _, none⟩ rfl).trans h1, (k ⟨_, _, none⟩ rfl).trans h2, (k ⟨_, _, none⟩ rfl).trans h3, (k ⟨_, _, none⟩ rfl).trans h4, (k ⟨_, _, none⟩ rfl).trans h5, (k ⟨_, _, none⟩ rfl).trans h6⟩
theorem own_apart {w : World} {v : Value} {l : List C} {base : Nat} (h : w.ownsRow base 31 7 v l.length (flatC l)) :
    ∃ b0 cap, v = .slice b0 l.length cap ∧ Conds w b0 l ∧ ∀ q, NewBox w q → ∀ a, b0 = some a → a.block ≠ q := by
  rcases Nat.eq_zero_or_pos l.length with h0 | h0
  · rcases h.2 with ⟨rfl, h1⟩ | ⟨g, cp, cur, rfl, hb, hg, _⟩
    · have : l = [] := List.eq_nil_of_length_eq_zero h0
      subst this
      exact ⟨none, 0, rfl, fun i hi => absurd hi (Nat.not_lt_zero _), fun _ _ _ h => by cases h⟩
    · refine ⟨_, cp, rfl, fun i hi => absurd hi (by omega), fun q hq a ha => ?_⟩
      cases ha
      rintro rfl
      unfold NewBox at hq
      rw [hg] at hq
      cases hq
  · obtain ⟨b0, cap, e, hc⟩ := own_conds h
    rcases h.2 with ⟨_, h1⟩ | ⟨g, cp, cur, rfl, hb, hg, _⟩
    · omega
    · injection e with e1 e2 e3
      subst e1
      refine ⟨_, cp, rfl, hc, fun q hq a ha => ?_⟩
      cases ha
      rintro rfl
      unfold NewBox at hq
      rw [hg] at hq
      cases hq
end Go.Proofs.YtceplbanfpnhbaaGreatDoor.Val
end

section
/- BOXES OF FILTERS THAT ARE LAID EARLY AND WRITTEN LATE, what is left untouched by a store into one. No walk. -/
namespace Go.Proofs.YtceplbanfpnhbaaGreatDoor.Val
open Go.RowKit Flt
/-- the world behind a store of a filter into a box -/
def putF (W : World) (q : Nat) (s : List UInt8) (b : Option Addr) (n cap : Nat) : World := (W.setCell ⟨q, 0, none⟩ (.string ⟨s.toArray⟩)).setCell ⟨q, 1, none⟩ (.slice b n cap)
theorem newbox_far {W : World} {p q : Nat} (h : NewBox W q) (hne : q ≠ p) (s : List UInt8) (b : Option Addr) (n cap : Nat) : NewBox (putF W p s b n cap) q := by
  unfold NewBox putF at *
  rw [Below.heap_setCell _ _ _ _ (show q ≠ p from hne), Below.heap_setCell _ _ _ _ (show q ≠ p from hne)]
  exact h
theorem box2_far {W : World} {p q : Nat} {s2 : List UInt8} {b2 : Option Addr} {n2 cap2 : Nat} (h : Box2 W q s2 b2 n2 cap2) (hne : q ≠ p) (s : List UInt8) (b : Option Addr) (n cap : Nat) : Box2 (putF W p s b n cap) q s2 b2 n2 cap2 := by
  have k : ∀ o, (putF W p s b n cap).cell? ⟨q, o, none⟩ = W.cell? ⟨q, o, none⟩ := fun o => by
    unfold putF
    have ne : ∀ i : Nat, (⟨p, i, none⟩ : Addr) ≠ ⟨q, o, none⟩ := fun i e => hne (congrArg Addr.block e).symm
    exact (World.cell?_setCell_other _ _ _ _ (by first | exact ne _ | exact (ne _).symm)).trans (World.cell?_setCell_other _ _ _ _ (by first | exact ne _ | exact (ne _).symm))
  exact ⟨(k 0).trans h.1, (k 1).trans h.2⟩
theorem conds_off {W : World} {q : Nat} (h : NewBox W q) {b : Option Addr} {L : List C} (hc : Conds W b L) : L = [] ∨ ∀ a, b = some a → a.block ≠ q := by
  cases L with
  | nil => exact .inl rfl
  | cons c r =>
    refine .inr fun a ha e => ?_
    obtain ⟨a', e', hat⟩ := hc 0 (by simp)
    rw [ha] at e'
    cases e'
    have h6 := hat.2.2.2.2.2.2
    have hb : (a.add (0 * 7)).block = q := by
      rw [← e]; unfold Addr.add; split <;> rfl
    rw [hb] at h6
    unfold NewBox at h
    simp [World.cell?, h] at h6
theorem conds_put {W : World} {q : Nat} (h : NewBox W q) {b2 : Option Addr} {L : List C} (hc : Conds W b2 L) (s : List UInt8) (b : Option Addr) (n cap : Nat) : Conds (putF W q s b n cap) b2 L := by
  rcases conds_off h hc with rfl | hne
  · exact conds_nil _ _
  · exact conds_set (conds_set hc hne _) hne _
theorem newbox_put {W : World} {q : Nat} (h : NewBox W q) (s : List UInt8) (b : Option Addr) (n cap : Nat) : Box2 (putF W q s b n cap) q s b n cap := newbox_store h s b n cap
theorem below_put {B : Nat} {W0 W : World} {q : Nat} (h : Below B W0 W) (hq : B ≤ q) (s : List UInt8) (b : Option Addr) (n cap : Nat) : Below B W0 (putF W q s b n cap) :=
  (h.setCell (p := ⟨q, 0, none⟩) hq _).setCell (p := ⟨q, 1, none⟩) hq _
end Go.Proofs.YtceplbanfpnhbaaGreatDoor.Val
end

section
/- TWO FILTERS OUT OF AN ARRAY: what the laws FilterCovers and FilterKeys have alike. No walk. -/
namespace Go.Proofs.YtceplbanfpnhbaaGreatDoor.Val
open Go.RowKit Flt
def Box4 (w : World) (b : Nat) (s1 : List UInt8) (a1 : Option Addr) (n1 c1 : Nat) (s2 : List UInt8) (a2 : Option Addr) (n2 c2 : Nat) : Prop :=
  w.cell? ⟨b, 0, none⟩ = some (.string ⟨s1.toArray⟩) ∧ w.cell? ⟨b, 1, none⟩ = some (.slice a1 n1 c1) ∧ w.cell? ⟨b, 2, none⟩ = some (.string ⟨s2.toArray⟩) ∧ w.cell? ⟨b, 3, none⟩ = some (.slice a2 n2 c2)
theorem Box4.below {w w2 : World} {b : Nat} {s1 : List UInt8} {a1 : Option Addr} {n1 c1 : Nat} {s2 : List UInt8} {a2 : Option Addr} {n2 c2 : Nat} (h : Box4 w b s1 a1 n1 c1 s2 a2 n2 c2) (hb : Below w.heap.size w w2) : Box4 w2 b s1 a1 n1 c1 s2 a2 n2 c2 := by
  obtain ⟨h0, h1, h2, h3⟩ := h
  exact ⟨(hb.cell (World.block_lt_of_cell? _ _ h0)).trans h0, (hb.cell (World.block_lt_of_cell? _ _ h1)).trans h1, (hb.cell (World.block_lt_of_cell? _ _ h2)).trans h2, (hb.cell (World.block_lt_of_cell? _ _ h3)).trans h3⟩
theorem box4_new (w : World) (s1 : List UInt8) (a1 : Option Addr) (n1 c1 : Nat) (s2 : List UInt8) (a2 : Option Addr) (n2 c2 : Nat) (T : TypeId) :
    Box4 (w.alloc (.cells #[.string ⟨s1.toArray⟩, .slice a1 n1 c1, .string ⟨s2.toArray⟩, .slice a2 n2 c2] T)) w.heap.size s1 a1 n1 c1 s2 a2 n2 c2 := by
  have c : ∀ o, (w.alloc (.cells #[.string ⟨s1.toArray⟩, .slice a1 n1 c1, .string ⟨s2.toArray⟩, .slice a2 n2 c2] T)).cell? ⟨w.heap.size, o, none⟩ = #[.string ⟨s1.toArray⟩, .slice a1 n1 c1, .string ⟨s2.toArray⟩, .slice a2 n2 c2][o]? := fun o => World.cell?_alloc_at _ _ _ _ rfl
  exact ⟨c 0, c 1, c 2, c 3⟩
theorem boxt_new (W : World) (s1 : List UInt8) (a1 : Option Addr) (n1 c1 : Nat) (s2 : List UInt8) (a2 : Option Addr) (n2 c2 : Nat) (T : TypeId) :
    Box2 ((W.alloc (.cells #[.string ⟨s1.toArray⟩, .slice a1 n1 c1] T)).alloc (.cells #[.string ⟨s2.toArray⟩, .slice a2 n2 c2] T)).drew W.heap.size s1 a1 n1 c1 ∧
    Box2 ((W.alloc (.cells #[.string ⟨s1.toArray⟩, .slice a1 n1 c1] T)).alloc (.cells #[.string ⟨s2.toArray⟩, .slice a2 n2 c2] T)).drew (W.heap.size + 1) s2 a2 n2 c2 ∧
    Below W.heap.size W ((W.alloc (.cells #[.string ⟨s1.toArray⟩, .slice a1 n1 c1] T)).alloc (.cells #[.string ⟨s2.toArray⟩, .slice a2 n2 c2] T)).drew := by
  have h1 := (box2_new W s1 a1 n1 c1 T).below (balloc _ (.cells #[.string ⟨s2.toArray⟩, .slice a2 n2 c2] T))
  have h2 := box2_new (W.alloc (.cells #[.string ⟨s1.toArray⟩, .slice a1 n1 c1] T)) s2 a2 n2 c2 T
  rw [World.size_alloc] at h2
  exact ⟨h1, h2, bdrewN (balloc2 W _ _) 1⟩
theorem prefix_facts (b r : List UInt8) (x : UInt8) : b.length < (b ++ x :: r).length ∧ ((⟨(b ++ x :: r).toArray⟩ : ByteArray)[b.length]'(by show b.length < (b ++ x :: r).toArray.size; simp)) = x ∧ ((⟨(b ++ x :: r).toArray⟩ : ByteArray).extract 0 b.length).toList = b := by
  refine ⟨by simp, by show (b ++ x :: r).toArray[b.length] = x; simp, ?_⟩
  rw [Lib.toList_data, Lib.extract_data]
  simp
end Go.Proofs.YtceplbanfpnhbaaGreatDoor.Val
end

section
/- THE WALK OF the law FilterKeys. -/
namespace Go.Proofs.YtceplbanfpnhbaaGreatDoor.Val
open Go.RowKit Flt
attribute [local go_sem] run_store_flt
theorem fk_below {W0 w1 w2 : World} {s1 s2 se : List UInt8} {a1 a2 e0 : Option Addr} {l1 l2 : List C} {el : List A} {pa pb pe c1 c2 ecp : Nat} (hb : Below w1.heap.size w1 w2) (h : (fun w' => w'.cell? ⟨pa, 0, none⟩ = some (.string ⟨s1.toArray⟩) ∧ w'.cell? ⟨pa, 1, none⟩ = some (.slice a1 l1.length c1) ∧ w'.cell? ⟨pb, 0, none⟩ = some (.string ⟨s2.toArray⟩) ∧ w'.cell? ⟨pb, 1, none⟩ = some (.slice a2 l2.length c2) ∧ w'.cell? ⟨pe, 0, none⟩ = some (.string ⟨se.toArray⟩) ∧ w'.cell? ⟨pe, 1, none⟩ = some (.slice e0 el.length ecp) ∧ Below W0.heap.size W0 w' ∧ (pa < w'.heap.size ∧ pb < w'.heap.size ∧ pe < w'.heap.size)) w1) : (fun w' => w'.cell? ⟨pa, 0, none⟩ = some (.string ⟨s1.toArray⟩) ∧ w'.cell? ⟨pa, 1, none⟩ = some (.slice a1 l1.length c1) ∧ w'.cell? ⟨pb, 0, none⟩ = some (.string ⟨s2.toArray⟩) ∧ w'.cell? ⟨pb, 1, none⟩ = some (.slice a2 l2.length c2) ∧ w'.cell? ⟨pe, 0, none⟩ = some (.string ⟨se.toArray⟩) ∧ w'.cell? ⟨pe, 1, none⟩ = some (.slice e0 el.length ecp) ∧ Below W0.heap.size W0 w' ∧ (pa < w'.heap.size ∧ pb < w'.heap.size ∧ pe < w'.heap.size)) w2 := by
  obtain ⟨h0, h1, h2, h3, h4, h5, hB, l1, l2, l3⟩ := h
  have c : ∀ q o, q < w1.heap.size → w2.cell? ⟨q, o, none⟩ = w1.cell? ⟨q, o, none⟩ := fun q o hq => hb.cell (p := ⟨q, o, none⟩) hq
  exact ⟨by rw [c _ _ l1]; exact h0, by rw [c _ _ l1]; exact h1, by rw [c _ _ l2]; exact h2, by rw [c _ _ l2]; exact h3, by rw [c _ _ l3]; exact h4, by rw [c _ _ l3]; exact h5, btrans hB hb, Nat.lt_of_lt_of_le l1 hb.size, Nat.lt_of_lt_of_le l2 hb.size, Nat.lt_of_lt_of_le l3 hb.size⟩
theorem fk_own {W0 w1 : World} {s1 s2 se : List UInt8} {a1 a2 e0 : Option Addr} {l1 l2 : List C} {el : List A} {pa pb pe c1 c2 ecp : Nat} (h : (fun w' => w'.cell? ⟨pa, 0, none⟩ = some (.string ⟨s1.toArray⟩) ∧ w'.cell? ⟨pa, 1, none⟩ = some (.slice a1 l1.length c1) ∧ w'.cell? ⟨pb, 0, none⟩ = some (.string ⟨s2.toArray⟩) ∧ w'.cell? ⟨pb, 1, none⟩ = some (.slice a2 l2.length c2) ∧ w'.cell? ⟨pe, 0, none⟩ = some (.string ⟨se.toArray⟩) ∧ w'.cell? ⟨pe, 1, none⟩ = some (.slice e0 el.length ecp) ∧ Below W0.heap.size W0 w' ∧ (pa < w'.heap.size ∧ pb < w'.heap.size ∧ pe < w'.heap.size)) w1) : Below W0.heap.size W0 w1 := h.2.2.2.2.2.2.1
set_option maxRecDepth 20000 in
set_option maxHeartbeats 40000000 in
theorem fkeys_law (s1 : List UInt8) (a1 : Option Addr) (c1 : Nat) (l1 : List C) (s2 : List UInt8) (a2 : Option Addr) (c2 : Nat) (l2 : List C) (s : List UInt8) (b0 : Option Addr) (bcap : Nat) (al : List A) (w : World) (hw : Words w) (hT : Tab.Tabs w)
    (h1 : Open.FIn w s1 a1 c1 l1) (h2 : Open.FIn w s2 a2 c2 l2) (hs : s.length ≤ 140737488351232) (ha : Attrs w b0 al) (hoka : ∀ x ∈ al, Open.AOk x) (ham : al.length ≤ maxLen) :
    Calls Tryz.prog 9 #[.agg #[.string ⟨s1.toArray⟩, .slice a1 l1.length c1, .string ⟨s2.toArray⟩, .slice a2 l2.length c2], .string ⟨s.toArray⟩, .slice b0 al.length bcap] w fun e w' => e = .returned (.bool true) ∧ Below w.heap.size w w' := by
  obtain ⟨z1, q1, m1, cs1, ok1, _⟩ := h1
  have hli1 (W : World) (h : Conds W a1 l1) := light07_any s1 a1 c1 l1 W h (Nat.le_trans q1 m1)
  have hri1 (W : World) (h : Conds W a1 l1) (hm : l1.length ≤ 1000000) := fright_any s1 a1 c1 l1 W h hm z1 (fun c hc => ⟨(ok1 c hc).1, (ok1 c hc).2.2.2.2.2⟩)
  have hsm1 := fun h : fRight s1 l1 = true => (⟨fright_small h ok1 (fun c hc => (ok1 c hc).2.2.2.2.1), h⟩ : _ ∧ fRight s1 l1 = true)
  have hsr1 : fRight s1 l1 = true → Sc.rightB s1 = true := fun h => by
    unfold fRight at h
    simp only [Bool.and_eq_true] at h
    exact h.2.1
  generalize fRight s1 l1 = fr1 at *
  have HC1 := Lib.hid cs1; have HLI1 := Lib.hid hli1; have HRI1 := Lib.hid hri1; have HSM1 := Lib.hid hsm1; have HSR1 := Lib.hid hsr1
  clear cs1 hli1 hri1 hsm1 hsr1 ok1 q1 m1
  obtain ⟨z2, q2, m2, cs2, ok2, _⟩ := h2
  have hli2 (W : World) (h : Conds W a2 l2) := light07_any s2 a2 c2 l2 W h (Nat.le_trans q2 m2)
  have hri2 (W : World) (h : Conds W a2 l2) (hm : l2.length ≤ 1000000) := fright_any s2 a2 c2 l2 W h hm z2 (fun c hc => ⟨(ok2 c hc).1, (ok2 c hc).2.2.2.2.2⟩)
  have hsm2 := fun h : fRight s2 l2 = true => (⟨fright_small h ok2 (fun c hc => (ok2 c hc).2.2.2.2.1), h⟩ : _ ∧ fRight s2 l2 = true)
  have hsr2 : fRight s2 l2 = true → Sc.rightB s2 = true := fun h => by
    unfold fRight at h
    simp only [Bool.and_eq_true] at h
    exact h.2.1
  generalize fRight s2 l2 = fr2 at *
  have HC2 := Lib.hid cs2; have HLI2 := Lib.hid hli2; have HRI2 := Lib.hid hri2; have HSM2 := Lib.hid hsm2; have HSR2 := Lib.hid hsr2
  clear cs2 hli2 hri2 hsm2 hsr2 ok2 q2 m2
  have hfw (W : World) (h : Attrs W b0 al) := few07_any b0 bcap al W h ham
  have hev (W : World) (h : Attrs W b0 al) (hm : al.length ≤ 20) := event07_any s b0 bcap al W h (by omega) hs hoka
  have hel : (evL al).length ≤ 8 := by unfold evL; rw [List.length_take]; omega
  have hss : (evS s).length ≤ 140737488351232 := by unfold evS; split <;> simp [hs]
  generalize evL al = el at *
  generalize hse : evS s = se at *
  have HW := Lib.hid hw; have HT := Lib.hid hT; have HA := Lib.hid ha; have HFW := Lib.hid hfw; have HEV := Lib.hid hev
  clear hw hT ha hoka hfw hev ham hs hse
  go_enter Tryz.func9, Tryz.ntmps9
  go_wp2_with fail
  refine (fit07_any _ (HW.out.below (balloc _ _))).mono ?_; rintro e w1 ⟨rfl, hb1⟩
  have HBX := Lib.hid ((box4_new w s1 a1 l1.length c1 s2 a2 l2.length c2 53).below hb1)
  have HBR := Lib.hid (btrans (balloc w (.cells #[.string ⟨s1.toArray⟩, .slice a1 l1.length c1, .string ⟨s2.toArray⟩, .slice a2 l2.length c2] 53)) hb1)
  clear hb1
  go_upto_region 3 with fail
  go_cut [7, 8] (fun va vb wx => ∃ pa pb : Nat, va = .pointer (some ⟨pa, 0, none⟩) ∧ vb = .pointer (some ⟨pb, 0, none⟩) ∧ Hid (Box2 wx pa s1 a1 l1.length c1) ∧ Hid (Box2 wx pb s2 a2 l2.length c2) ∧ Hid (Below w1.heap.size w1 wx))
  case first => as_aux_lemma =>
    have hlt0 : w.heap.size < w1.heap.size := World.block_lt_of_cell? _ _ HBX.out.1
    obtain ⟨f0, f1, f2, f3⟩ := HBX.out
    clear HBX HBR HC1 HC2 HLI1 HLI2 HRI1 HRI2 HSM1 HSM2 HSR1 HSR2 HW HT HA HFW HEV
    generalize w.heap.size = p3 at *
    have hlt1 : p3 < w1.heap.size + 1 := by omega
    have hne0 : ¬ p3 = w1.heap.size := by omega
    have hne1 : ¬ p3 = w1.heap.size + 1 := by omega
    go_region
    all_goals
      go_wp2_with fail
      go_meet
      first
      | exact ⟨_, _, rfl, rfl, Lib.hid (boxt_new w1 s1 a1 l1.length c1 s2 a2 l2.length c2 24).1, Lib.hid (boxt_new w1 s1 a1 l1.length c1 s2 a2 l2.length c2 24).2.1, Lib.hid (boxt_new w1 s1 a1 l1.length c1 s2 a2 l2.length c2 24).2.2⟩
      | exact ⟨_, _, rfl, rfl, Lib.hid (boxt_new w1 s2 a2 l2.length c2 s1 a1 l1.length c1 24).2.1, Lib.hid (boxt_new w1 s2 a2 l2.length c2 s1 a1 l1.length c1 24).1, Lib.hid (boxt_new w1 s2 a2 l2.length c2 s1 a1 l1.length c1 24).2.2⟩
  case rest => as_aux_lemma =>
    obtain ⟨pa, pb, rfl, rfl, BA, BB, HBC⟩ := hcut
    replace HBR := Lib.hid (btrans HBR.out HBC.out)
    clear HBX HBC
    obtain ⟨f0, f1⟩ := BA.out
    obtain ⟨g0, g1⟩ := BB.out
    go_wp2_with fail
    refine (HLI1.out _ (HC1.out.below HBR.out)).mono ?_; rintro e w2 ⟨⟨fb, rfl, hfl⟩, hbn⟩; (replace BA := Lib.hid (BA.out.below hbn); replace BB := Lib.hid (BB.out.below hbn); replace HBR := Lib.hid (btrans HBR.out hbn); clear hbn f0 f1 g0 g1; obtain ⟨f0, f1⟩ := BA.out; obtain ⟨g0, g1⟩ := BB.out)
    cases fb
    · go_wp2_with fail
      go_ret
      exact ⟨rfl, HBR.out⟩
    have hl1 := hfl rfl
    clear hfl
    go_wp2_with fail
    refine (HLI2.out _ (HC2.out.below HBR.out)).mono ?_; rintro e w2 ⟨⟨fb, rfl, hfl⟩, hbn⟩; (replace BA := Lib.hid (BA.out.below hbn); replace BB := Lib.hid (BB.out.below hbn); replace HBR := Lib.hid (btrans HBR.out hbn); clear hbn f0 f1 g0 g1; obtain ⟨f0, f1⟩ := BA.out; obtain ⟨g0, g1⟩ := BB.out)
    cases fb
    · go_wp2_with fail
      go_ret
      exact ⟨rfl, HBR.out⟩
    have hl2 := hfl rfl
    clear hfl
    go_wp2_with fail
    refine (HFW.out _ (HA.out.below HBR.out)).mono ?_; rintro e w4 ⟨⟨fb, rfl, hfl⟩, hbn⟩; (replace BA := Lib.hid (BA.out.below hbn); replace BB := Lib.hid (BB.out.below hbn); replace HBR := Lib.hid (btrans HBR.out hbn); clear hbn f0 f1 g0 g1; obtain ⟨f0, f1⟩ := BA.out; obtain ⟨g0, g1⟩ := BB.out)
    cases fb
    · go_wp2_with fail
      go_ret
      exact ⟨rfl, HBR.out⟩
    have ha20 := hfl rfl
    clear hfl
    by_cases h100 : s.length ≤ 100
    rotate_left
    · have d1 : (100 : Int) < (s.length : Int) := by omega
      go_wp2_with fail
      go_ret
      exact ⟨rfl, HBR.out⟩
    have d1 : ¬ (100 : Int) < (s.length : Int) := by omega
    go_wp2_with fail
    refine (HRI1.out _ (HC1.out.below HBR.out) (by omega)).mono ?_; rintro e w3 ⟨rfl, hbn⟩; (replace BA := Lib.hid (BA.out.below hbn); replace BB := Lib.hid (BB.out.below hbn); replace HBR := Lib.hid (btrans HBR.out hbn); clear hbn f0 f1 g0 g1; obtain ⟨f0, f1⟩ := BA.out; obtain ⟨g0, g1⟩ := BB.out)
    cases fr1
    · go_wp2_with fail
      go_ret
      exact ⟨rfl, HBR.out⟩
    obtain ⟨⟨y1, x1, k1, o1⟩, _⟩ := HSM1.out rfl
    have r1 := HSR1.out rfl
    have HOK1 := Lib.hid k1; have HSC1 := Lib.hid o1; have HRT1 := Lib.hid r1
    clear k1 o1 r1 HSM1 HSR1
    go_wp2_with fail
    refine (HRI2.out _ (HC2.out.below HBR.out) (by omega)).mono ?_; rintro e w3 ⟨rfl, hbn⟩; (replace BA := Lib.hid (BA.out.below hbn); replace BB := Lib.hid (BB.out.below hbn); replace HBR := Lib.hid (btrans HBR.out hbn); clear hbn f0 f1 g0 g1; obtain ⟨f0, f1⟩ := BA.out; obtain ⟨g0, g1⟩ := BB.out)
    cases fr2
    · go_wp2_with fail
      go_ret
      exact ⟨rfl, HBR.out⟩
    obtain ⟨⟨y2, x2, k2, o2⟩, _⟩ := HSM2.out rfl
    have r2 := HSR2.out rfl
    have HOK2 := Lib.hid k2; have HSC2 := Lib.hid o2; have HRT2 := Lib.hid r2
    clear k2 o2 r2 HSM2 HSR2
    clear HLI1 HLI2 HRI1 HRI2 HFW
    go_wp2_with fail
    refine (HEV.out _ (HA.out.below HBR.out) ha20).mono ?_
    rintro e w6 ⟨e0, ecp, rfl, hat6, hbn⟩; (replace BA := Lib.hid (BA.out.below hbn); replace BB := Lib.hid (BB.out.below hbn); replace HBR := Lib.hid (btrans HBR.out hbn); clear hbn f0 f1 g0 g1; obtain ⟨f0, f1⟩ := BA.out; obtain ⟨g0, g1⟩ := BB.out)
    have HAT := Lib.hid (hat6.below (balloc w6 (.cells #[.string ⟨se.toArray⟩, .slice e0 el.length ecp] 57))); have BE := Lib.hid (box2_new w6 se e0 el.length ecp 57)
    replace BA := Lib.hid (BA.out.below (balloc w6 (.cells #[.string ⟨se.toArray⟩, .slice e0 el.length ecp] 57))); replace BB := Lib.hid (BB.out.below (balloc w6 (.cells #[.string ⟨se.toArray⟩, .slice e0 el.length ecp] 57))); replace HBR := Lib.hid (btrans HBR.out (balloc w6 (.cells #[.string ⟨se.toArray⟩, .slice e0 el.length ecp] 57)))
    clear hat6 HEV HA
    go_upto_region 7 with fail
    clear f0 f1 g0 g1
    generalize w6.alloc _ = W0 at *
    generalize w6.heap.size = pe at *
    obtain ⟨f0, f1⟩ := BA.out
    obtain ⟨g0, g1⟩ := BB.out
    obtain ⟨e1, e2⟩ := BE.out
    have hk1 : ∀ W, Below W0.heap.size W0 W → Calls Tryz.prog 18 #[ev s1 a1 l1.length c1] W fun e w' => e = .returned (.string ⟨(keyT s1 l1).toArray⟩) ∧ Below W.heap.size W w' :=
      fun W hb => key_any s1 a1 c1 l1 W (HC1.out.below (btrans HBR.out hb)) (by omega) (HW.out.below (btrans HBR.out hb)) (HT.out.below (btrans HBR.out hb) (Nat.le_refl _)) HSC1.out (by omega)
    have HK1 := Lib.hid hk1
    clear hk1
    go_wp2_with fail
    refine (HK1.out _ (Below.refl _ _)).mono ?_; rintro e W1 ⟨rfl, hbn⟩
    clear HK1
    go_upto_region 8 with fail
    have BE2 := Lib.hid (BE.out.below hbn); have HAT2 := Lib.hid (HAT.out.below hbn)
    clear f0 f1 g0 g1 e1 e2
    replace BA := Lib.hid (BA.out.below hbn); replace BB := Lib.hid (BB.out.below hbn); replace HBR := Lib.hid (btrans HBR.out hbn)
    clear hbn BE HAT
    have BE := BE2; have HAT := HAT2; clear BE2 HAT2
    obtain ⟨W0, hW0⟩ : ∃ x : World, x = W1 := ⟨_, rfl⟩
    subst hW0
    have hk2 : ∀ W, Below W0.heap.size W0 W → Calls Tryz.prog 18 #[ev s2 a2 l2.length c2] W fun e w' => e = .returned (.string ⟨(keyT s2 l2).toArray⟩) ∧ Below W.heap.size W w' :=
      fun W hb => key_any s2 a2 c2 l2 W (HC2.out.below (btrans HBR.out hb)) (by omega) (HW.out.below (btrans HBR.out hb)) (HT.out.below (btrans HBR.out hb) (Nat.le_refl _)) HSC2.out (by omega)
    have hm1 : ∀ W, Below W0.heap.size W0 W → Calls Tryz.prog 30 #[ev s1 a1 l1.length c1, ev se e0 el.length ecp] W fun e w' => e = .returned (.bool (fMatch s1 l1 se el)) ∧ Below W.heap.size W w' :=
      fun W hb => fmatch_any s1 a1 c1 l1 se e0 ecp el W (HC1.out.below (btrans HBR.out hb)) (HAT.out.below hb) (by omega) (by omega) z1 hss
    have hm2 : ∀ W, Below W0.heap.size W0 W → Calls Tryz.prog 30 #[ev s2 a2 l2.length c2, ev se e0 el.length ecp] W fun e w' => e = .returned (.bool (fMatch s2 l2 se el)) ∧ Below W.heap.size W w' :=
      fun W hb => fmatch_any s2 a2 c2 l2 se e0 ecp el W (HC2.out.below (btrans HBR.out hb)) (HAT.out.below hb) (by omega) (by omega) z2 hss
    have h12 : ∀ W, Below W0.heap.size W0 W → Calls Tryz.prog 19 #[ev s1 a1 l1.length c1, ev s2 a2 l2.length c2] W fun e w' => e = .returned (.bool (fCovers s1 l1 s2 l2)) ∧ Below W.heap.size W w' :=
      fun W hb => fcovers_any s1 a1 c1 l1 s2 a2 c2 l2 W (HC1.out.below (btrans HBR.out hb)) (HC2.out.below (btrans HBR.out hb)) (by omega) (by omega) z1 z2 (fun c h => (HSC2.out c h).2) (fun c h => (HSC2.out c h).1.2.2.1) (fun c h => (HSC1.out c h).1.2.2.1)
    have h21 : ∀ W, Below W0.heap.size W0 W → Calls Tryz.prog 19 #[ev s2 a2 l2.length c2, ev s1 a1 l1.length c1] W fun e w' => e = .returned (.bool (fCovers s2 l2 s1 l1)) ∧ Below W.heap.size W w' :=
      fun W hb => fcovers_any s2 a2 c2 l2 s1 a1 c1 l1 W (HC2.out.below (btrans HBR.out hb)) (HC1.out.below (btrans HBR.out hb)) (by omega) (by omega) z2 z1 (fun c h => (HSC1.out c h).2) (fun c h => (HSC1.out c h).1.2.2.1) (fun c h => (HSC2.out c h).1.2.2.1)
    have hsame : keyT s1 l1 = keyT s2 l2 → _ := fun h => @key_same s1 s2 se l1 l2 el HOK1.out HOK2.out HRT1.out HRT2.out h
    have hst : (fun w' => w'.cell? ⟨pa, 0, none⟩ = some (.string ⟨s1.toArray⟩) ∧ w'.cell? ⟨pa, 1, none⟩ = some (.slice a1 l1.length c1) ∧ w'.cell? ⟨pb, 0, none⟩ = some (.string ⟨s2.toArray⟩) ∧ w'.cell? ⟨pb, 1, none⟩ = some (.slice a2 l2.length c2) ∧ w'.cell? ⟨pe, 0, none⟩ = some (.string ⟨se.toArray⟩) ∧ w'.cell? ⟨pe, 1, none⟩ = some (.slice e0 el.length ecp) ∧ Below W0.heap.size W0 w' ∧ (pa < w'.heap.size ∧ pb < w'.heap.size ∧ pe < w'.heap.size)) W0 := by
      obtain ⟨x0, x1⟩ := BA.out
      obtain ⟨y0, y1⟩ := BB.out
      obtain ⟨u0, u1⟩ := BE.out
      exact ⟨x0, x1, y0, y1, u0, u1, Below.refl _ _, BA.out.lt, BB.out.lt, BE.out.lt⟩
    have HS := Lib.hid hst
    clear hst
    rw [keyT_body s1 l1] at *
    generalize keyT s2 l2 = K2 at *
    generalize bodyT (normL l1) = T1 at *
    generalize fMatch s1 l1 se el = M1 at *
    generalize fMatch s2 l2 se el = M2 at *
    generalize fCovers s1 l1 s2 l2 = C12 at *
    generalize fCovers s2 l2 s1 l1 = C21 at *
    have HK2 := Lib.hid hk2; have HM1 := Lib.hid hm1; have HM2 := Lib.hid hm2; have H12 := Lib.hid h12; have H21 := Lib.hid h21; have HSAME := Lib.hid hsame
    clear hk2 hm1 hm2 h12 h21 hsame BA BB BE HAT HSC1 HSC2 HOK1 HOK2 HRT1 HRT2 HW HT HC1 HC2
    obtain ⟨pf1, pf2, pf3⟩ := prefix_facts s1 T1 58
    have pf5 : (s1.length : Int) ≤ (s1.length : Int) + ((T1.length : Int) + 1) := by omega
    have pf4 : (s1.length : Int) < (s1.length : Int) + ((T1.length : Int) + 1) := by omega
    by_cases hq : s1 ++ 58 :: T1 = K2
    · obtain ⟨hm, rfl, rfl⟩ := HSAME.out hq
      subst hm
      subst hq
      clear HSAME
      cases M1
      all_goals
        go_wp2_with fail
        refine wp_region_held_drew (S := (fun w' => w'.cell? ⟨pa, 0, none⟩ = some (.string ⟨s1.toArray⟩) ∧ w'.cell? ⟨pa, 1, none⟩ = some (.slice a1 l1.length c1) ∧ w'.cell? ⟨pb, 0, none⟩ = some (.string ⟨s2.toArray⟩) ∧ w'.cell? ⟨pb, 1, none⟩ = some (.slice a2 l2.length c2) ∧ w'.cell? ⟨pe, 0, none⟩ = some (.string ⟨se.toArray⟩) ∧ w'.cell? ⟨pe, 1, none⟩ = some (.slice e0 el.length ecp) ∧ Below W0.heap.size W0 w' ∧ (pa < w'.heap.size ∧ pb < w'.heap.size ∧ pe < w'.heap.size))) (by kernel_rfl) ?_ (fun hq0 => ?_)
        · ((try dsimp only); (first | exact fk_below (bdrewN (Below.refl _ _) 1) HS.out | assumption | exact fk_below (by assumption) (by assumption)))
        (refine wpAnyH_take (i := 0) (oi := ?_) (v := ?_) ?_ (by kernel_rfl) (by kernel_rfl) (by kernel_rfl) ?_ (Or.inl ⟨?_, ?_⟩) (by assumption) ?_; rotate_left 2; (· (simp only [List.getElem?_toArray, List.getElem?_cons_zero]; first | done | rfl)); (· exact (fun _ _ _ h => h)); (· rfl); (· (intro w hSw; (try dsimp only at hSw); go_simp; (try with_reducible rfl))))
        (try simp only [Act.put, List.setIfInBounds_toArray, List.set_cons_zero, List.set_cons_succ])
        (refine wpAnyH_take (i := 1) (oi := ?_) (v := ?_) ?_ (by kernel_rfl) (by kernel_rfl) (by kernel_rfl) ?_ (Or.inl ⟨?_, ?_⟩) (by assumption) ?_; rotate_left 2; (· (simp only [List.getElem?_toArray, List.getElem?_cons_succ, List.getElem?_cons_zero]; first | done | rfl)); (· exact (fun _ _ _ h => h)); (· rfl); (· (intro w hSw; (try dsimp only at hSw); go_simp; (try with_reducible rfl))))
        (try simp only [Act.put, List.setIfInBounds_toArray, List.set_cons_zero, List.set_cons_succ])
        refine wpAnyH_ready (rs := [2]) (by kernel_rfl) (by simp) ?_
        refine AllReadyH.cons (o := ?_) ?_ (fun K hK => ?_) AllReadyH.nil
        rotate_left 1
        · (simp only [List.getElem?_toArray, List.getElem?_cons_succ, List.getElem?_cons_zero]; first | done | rfl)
        go_simp
        first | (refine hK.out _ _ ?_ (fun hq1 => ?_)) | ((first | (go_at_call 18; ((with_reducible refine (HK2.out _ (fk_own (by assumption))).mono ?_); rintro e w9 ⟨rfl, hb9⟩)) | (go_at_call 30; ((with_reducible refine (HM1.out _ (fk_own (by assumption))).mono ?_); rintro e w9 ⟨rfl, hb9⟩)) | (go_at_call 30; ((with_reducible refine (HM2.out _ (fk_own (by assumption))).mono ?_); rintro e w9 ⟨rfl, hb9⟩)) | (go_at_call 19; ((with_reducible refine (H12.out _ (fk_own (by assumption))).mono ?_); rintro e w9 ⟨rfl, hb9⟩)) | (go_at_call 19; ((with_reducible refine (H21.out _ (fk_own (by assumption))).mono ?_); rintro e w9 ⟨rfl, hb9⟩))); refine hK.out _ _ ?_ (fun hq1 => ?_)) | ((first | (go_at_call 18; ((with_reducible refine (HK2.out _ (fk_own (by assumption))).mono ?_); rintro e w9 ⟨rfl, hb9⟩)) | (go_at_call 30; ((with_reducible refine (HM1.out _ (fk_own (by assumption))).mono ?_); rintro e w9 ⟨rfl, hb9⟩)) | (go_at_call 30; ((with_reducible refine (HM2.out _ (fk_own (by assumption))).mono ?_); rintro e w9 ⟨rfl, hb9⟩)) | (go_at_call 19; ((with_reducible refine (H12.out _ (fk_own (by assumption))).mono ?_); rintro e w9 ⟨rfl, hb9⟩)) | (go_at_call 19; ((with_reducible refine (H21.out _ (fk_own (by assumption))).mono ?_); rintro e w9 ⟨rfl, hb9⟩))); go_wp2_with fail; refine hK.out _ _ ?_ (fun hq1 => ?_)) | fail
        · ((try dsimp only); (first | exact fk_below (bdrewN (Below.refl _ _) 1) HS.out | assumption | exact fk_below (by assumption) (by assumption)))
        clear hK K
        (try simp only [Act.put, List.setIfInBounds_toArray, List.set_cons_zero, List.set_cons_succ])
        clear hq0
        (refine wpAnyH_take (i := 3) (oi := ?_) (v := ?_) ?_ (by kernel_rfl) (by kernel_rfl) (by kernel_rfl) ?_ (Or.inl ⟨?_, ?_⟩) (by assumption) ?_; rotate_left 2; (· (simp only [List.getElem?_toArray, List.getElem?_cons_succ, List.getElem?_cons_zero]; first | done | rfl)); (· exact (fun _ _ _ h => h)); (· rfl); (· (intro w hSw; (try dsimp only at hSw); go_simp; (try with_reducible rfl))))
        (try simp only [Act.put, List.setIfInBounds_toArray, List.set_cons_zero, List.set_cons_succ])
        (refine wpAnyH_take (i := 4) (oi := ?_) (v := ?_) ?_ (by kernel_rfl) (by kernel_rfl) (by kernel_rfl) ?_ (Or.inl ⟨?_, ?_⟩) (by assumption) ?_; rotate_left 2; (· (simp only [List.getElem?_toArray, List.getElem?_cons_succ, List.getElem?_cons_zero]; first | done | rfl)); (· exact (fun _ _ _ h => h)); (· rfl); (· (intro w hSw; (try dsimp only at hSw); go_simp; (try with_reducible rfl))))
        (try simp only [Act.put, List.setIfInBounds_toArray, List.set_cons_zero, List.set_cons_succ])
        (refine wpAnyH_take (i := 5) (oi := ?_) (v := ?_) ?_ (by kernel_rfl) (by kernel_rfl) (by kernel_rfl) ?_ (Or.inl ⟨?_, ?_⟩) (by assumption) ?_; rotate_left 2; (· (simp only [List.getElem?_toArray, List.getElem?_cons_succ, List.getElem?_cons_zero]; first | done | rfl)); (· exact (fun _ _ _ h => h)); (· rfl); (· (intro w hSw; (try dsimp only at hSw); go_simp; (try with_reducible rfl))))
        (try simp only [Act.put, List.setIfInBounds_toArray, List.set_cons_zero, List.set_cons_succ])
        (refine wpAnyH_take (i := 6) (oi := ?_) (v := ?_) ?_ (by kernel_rfl) (by kernel_rfl) (by kernel_rfl) ?_ (Or.inl ⟨?_, ?_⟩) (by assumption) ?_; rotate_left 2; (· (simp only [List.getElem?_toArray, List.getElem?_cons_succ, List.getElem?_cons_zero]; first | done | rfl)); (· exact (fun _ _ _ h => h)); (· rfl); (· (intro w hSw; (try dsimp only at hSw); go_simp; (try with_reducible rfl))))
        (try simp only [Act.put, List.setIfInBounds_toArray, List.set_cons_zero, List.set_cons_succ])
        (refine wpAnyH_take (i := 8) (oi := ?_) (v := ?_) ?_ (by kernel_rfl) (by kernel_rfl) (by kernel_rfl) ?_ (Or.inl ⟨?_, ?_⟩) (by assumption) ?_; rotate_left 2; (· (simp only [List.getElem?_toArray, List.getElem?_cons_succ, List.getElem?_cons_zero]; first | done | rfl)); (· exact (fun _ _ _ h => h)); (· rfl); (· (intro w hSw; (try dsimp only at hSw); go_simp; (try with_reducible rfl))))
        (try simp only [Act.put, List.setIfInBounds_toArray, List.set_cons_zero, List.set_cons_succ])
        (refine wpAnyH_take (i := 9) (oi := ?_) (v := ?_) ?_ (by kernel_rfl) (by kernel_rfl) (by kernel_rfl) ?_ (Or.inl ⟨?_, ?_⟩) (by assumption) ?_; rotate_left 2; (· (simp only [List.getElem?_toArray, List.getElem?_cons_succ, List.getElem?_cons_zero]; first | done | rfl)); (· exact (fun _ _ _ h => h)); (· rfl); (· (intro w hSw; (try dsimp only at hSw); go_simp; (try with_reducible rfl))))
        (try simp only [Act.put, List.setIfInBounds_toArray, List.set_cons_zero, List.set_cons_succ])
        refine wpAnyH_ready (rs := [7]) (by kernel_rfl) (by simp) ?_
        refine AllReadyH.cons (o := ?_) ?_ (fun K hK => ?_) AllReadyH.nil
        rotate_left 1
        · (simp only [List.getElem?_toArray, List.getElem?_cons_succ, List.getElem?_cons_zero]; first | done | rfl)
        go_simp
        first | (refine hK.out _ _ ?_ (fun hq2 => ?_)) | ((first | (go_at_call 18; ((with_reducible refine (HK2.out _ (fk_own (by assumption))).mono ?_); rintro e w9 ⟨rfl, hb9⟩)) | (go_at_call 30; ((with_reducible refine (HM1.out _ (fk_own (by assumption))).mono ?_); rintro e w9 ⟨rfl, hb9⟩)) | (go_at_call 30; ((with_reducible refine (HM2.out _ (fk_own (by assumption))).mono ?_); rintro e w9 ⟨rfl, hb9⟩)) | (go_at_call 19; ((with_reducible refine (H12.out _ (fk_own (by assumption))).mono ?_); rintro e w9 ⟨rfl, hb9⟩)) | (go_at_call 19; ((with_reducible refine (H21.out _ (fk_own (by assumption))).mono ?_); rintro e w9 ⟨rfl, hb9⟩))); refine hK.out _ _ ?_ (fun hq2 => ?_)) | ((first | (go_at_call 18; ((with_reducible refine (HK2.out _ (fk_own (by assumption))).mono ?_); rintro e w9 ⟨rfl, hb9⟩)) | (go_at_call 30; ((with_reducible refine (HM1.out _ (fk_own (by assumption))).mono ?_); rintro e w9 ⟨rfl, hb9⟩)) | (go_at_call 30; ((with_reducible refine (HM2.out _ (fk_own (by assumption))).mono ?_); rintro e w9 ⟨rfl, hb9⟩)) | (go_at_call 19; ((with_reducible refine (H12.out _ (fk_own (by assumption))).mono ?_); rintro e w9 ⟨rfl, hb9⟩)) | (go_at_call 19; ((with_reducible refine (H21.out _ (fk_own (by assumption))).mono ?_); rintro e w9 ⟨rfl, hb9⟩))); go_wp2_with fail; refine hK.out _ _ ?_ (fun hq2 => ?_)) | fail
        · ((try dsimp only); (first | exact fk_below (bdrewN (Below.refl _ _) 1) HS.out | assumption | exact fk_below (by assumption) (by assumption)))
        clear hK K
        (try simp only [Act.put, List.setIfInBounds_toArray, List.set_cons_zero, List.set_cons_succ])
        clear hq1
        refine wpAnyH_ready (rs := [10]) (by kernel_rfl) (by simp) ?_
        refine AllReadyH.cons (o := ?_) ?_ (fun K hK => ?_) AllReadyH.nil
        rotate_left 1
        · (simp only [List.getElem?_toArray, List.getElem?_cons_succ, List.getElem?_cons_zero]; first | done | rfl)
        go_simp
        first | (refine hK.out _ _ ?_ (fun hq3 => ?_)) | ((first | (go_at_call 18; ((with_reducible refine (HK2.out _ (fk_own (by assumption))).mono ?_); rintro e w9 ⟨rfl, hb9⟩)) | (go_at_call 30; ((with_reducible refine (HM1.out _ (fk_own (by assumption))).mono ?_); rintro e w9 ⟨rfl, hb9⟩)) | (go_at_call 30; ((with_reducible refine (HM2.out _ (fk_own (by assumption))).mono ?_); rintro e w9 ⟨rfl, hb9⟩)) | (go_at_call 19; ((with_reducible refine (H12.out _ (fk_own (by assumption))).mono ?_); rintro e w9 ⟨rfl, hb9⟩)) | (go_at_call 19; ((with_reducible refine (H21.out _ (fk_own (by assumption))).mono ?_); rintro e w9 ⟨rfl, hb9⟩))); refine hK.out _ _ ?_ (fun hq3 => ?_)) | ((first | (go_at_call 18; ((with_reducible refine (HK2.out _ (fk_own (by assumption))).mono ?_); rintro e w9 ⟨rfl, hb9⟩)) | (go_at_call 30; ((with_reducible refine (HM1.out _ (fk_own (by assumption))).mono ?_); rintro e w9 ⟨rfl, hb9⟩)) | (go_at_call 30; ((with_reducible refine (HM2.out _ (fk_own (by assumption))).mono ?_); rintro e w9 ⟨rfl, hb9⟩)) | (go_at_call 19; ((with_reducible refine (H12.out _ (fk_own (by assumption))).mono ?_); rintro e w9 ⟨rfl, hb9⟩)) | (go_at_call 19; ((with_reducible refine (H21.out _ (fk_own (by assumption))).mono ?_); rintro e w9 ⟨rfl, hb9⟩))); go_wp2_with fail; refine hK.out _ _ ?_ (fun hq3 => ?_)) | fail
        · ((try dsimp only); (first | exact fk_below (bdrewN (Below.refl _ _) 1) HS.out | assumption | exact fk_below (by assumption) (by assumption)))
        clear hK K
        (try simp only [Act.put, List.setIfInBounds_toArray, List.set_cons_zero, List.set_cons_succ])
        clear hq2
        (refine wpAnyH_take (i := 11) (oi := ?_) (v := ?_) ?_ (by kernel_rfl) (by kernel_rfl) (by kernel_rfl) ?_ (Or.inl ⟨?_, ?_⟩) (by assumption) ?_; rotate_left 2; (· (simp only [List.getElem?_toArray, List.getElem?_cons_succ, List.getElem?_cons_zero]; first | done | rfl)); (· exact (fun _ _ _ h => h)); (· rfl); (· (intro w hSw; (try dsimp only at hSw); go_simp; (try with_reducible rfl))))
        (try simp only [Act.put, List.setIfInBounds_toArray, List.set_cons_zero, List.set_cons_succ])
        (refine wpAnyH_take (i := 12) (oi := ?_) (v := ?_) ?_ (by kernel_rfl) (by kernel_rfl) (by kernel_rfl) ?_ (Or.inl ⟨?_, ?_⟩) (by assumption) ?_; rotate_left 2; (· (simp only [List.getElem?_toArray, List.getElem?_cons_succ, List.getElem?_cons_zero]; first | done | rfl)); (· exact (fun _ _ _ h => h)); (· rfl); (· (intro w hSw; (try dsimp only at hSw); go_simp; (try with_reducible rfl))))
        (try simp only [Act.put, List.setIfInBounds_toArray, List.set_cons_zero, List.set_cons_succ])
        (refine wpAnyH_take (i := 13) (oi := ?_) (v := ?_) ?_ (by kernel_rfl) (by kernel_rfl) (by kernel_rfl) ?_ (Or.inl ⟨?_, ?_⟩) (by assumption) ?_; rotate_left 2; (· (simp only [List.getElem?_toArray, List.getElem?_cons_succ, List.getElem?_cons_zero]; first | done | rfl)); (· exact (fun _ _ _ h => h)); (· rfl); (· (intro w hSw; (try dsimp only at hSw); go_simp; (try with_reducible rfl))))
        (try simp only [Act.put, List.setIfInBounds_toArray, List.set_cons_zero, List.set_cons_succ])
        (refine wpAnyH_take (i := 14) (oi := ?_) (v := ?_) ?_ (by kernel_rfl) (by kernel_rfl) (by kernel_rfl) ?_ (Or.inl ⟨?_, ?_⟩) (by assumption) ?_; rotate_left 2; (· (simp only [List.getElem?_toArray, List.getElem?_cons_succ, List.getElem?_cons_zero]; first | done | rfl)); (· exact (fun _ _ _ h => h)); (· rfl); (· (intro w hSw; (try dsimp only at hSw); go_simp; (try with_reducible rfl))))
        (try simp only [Act.put, List.setIfInBounds_toArray, List.set_cons_zero, List.set_cons_succ])
        refine wpAnyH_ready (rs := [15]) (by kernel_rfl) (by simp) ?_
        refine AllReadyH.cons (o := ?_) ?_ (fun K hK => ?_) AllReadyH.nil
        rotate_left 1
        · (simp only [List.getElem?_toArray, List.getElem?_cons_succ, List.getElem?_cons_zero]; first | done | rfl)
        go_simp
        first | (refine hK.out _ _ ?_ (fun hq4 => ?_)) | ((first | (go_at_call 18; ((with_reducible refine (HK2.out _ (fk_own (by assumption))).mono ?_); rintro e w9 ⟨rfl, hb9⟩)) | (go_at_call 30; ((with_reducible refine (HM1.out _ (fk_own (by assumption))).mono ?_); rintro e w9 ⟨rfl, hb9⟩)) | (go_at_call 30; ((with_reducible refine (HM2.out _ (fk_own (by assumption))).mono ?_); rintro e w9 ⟨rfl, hb9⟩)) | (go_at_call 19; ((with_reducible refine (H12.out _ (fk_own (by assumption))).mono ?_); rintro e w9 ⟨rfl, hb9⟩)) | (go_at_call 19; ((with_reducible refine (H21.out _ (fk_own (by assumption))).mono ?_); rintro e w9 ⟨rfl, hb9⟩))); refine hK.out _ _ ?_ (fun hq4 => ?_)) | ((first | (go_at_call 18; ((with_reducible refine (HK2.out _ (fk_own (by assumption))).mono ?_); rintro e w9 ⟨rfl, hb9⟩)) | (go_at_call 30; ((with_reducible refine (HM1.out _ (fk_own (by assumption))).mono ?_); rintro e w9 ⟨rfl, hb9⟩)) | (go_at_call 30; ((with_reducible refine (HM2.out _ (fk_own (by assumption))).mono ?_); rintro e w9 ⟨rfl, hb9⟩)) | (go_at_call 19; ((with_reducible refine (H12.out _ (fk_own (by assumption))).mono ?_); rintro e w9 ⟨rfl, hb9⟩)) | (go_at_call 19; ((with_reducible refine (H21.out _ (fk_own (by assumption))).mono ?_); rintro e w9 ⟨rfl, hb9⟩))); go_wp2_with fail; refine hK.out _ _ ?_ (fun hq4 => ?_)) | fail
        · ((try dsimp only); (first | exact fk_below (bdrewN (Below.refl _ _) 1) HS.out | assumption | exact fk_below (by assumption) (by assumption)))
        clear hK K
        (try simp only [Act.put, List.setIfInBounds_toArray, List.set_cons_zero, List.set_cons_succ])
        clear hq3
        (refine wpAnyH_take (i := 16) (oi := ?_) (v := ?_) ?_ (by kernel_rfl) (by kernel_rfl) (by kernel_rfl) ?_ (Or.inl ⟨?_, ?_⟩) (by assumption) ?_; rotate_left 2; (· (simp only [List.getElem?_toArray, List.getElem?_cons_succ, List.getElem?_cons_zero]; first | done | rfl)); (· exact (fun _ _ _ h => h)); (· rfl); (· (intro w hSw; (try dsimp only at hSw); go_simp; (try with_reducible rfl))))
        (try simp only [Act.put, List.setIfInBounds_toArray, List.set_cons_zero, List.set_cons_succ])
        (refine wpAnyH_take (i := 17) (oi := ?_) (v := ?_) ?_ (by kernel_rfl) (by kernel_rfl) (by kernel_rfl) ?_ (Or.inl ⟨?_, ?_⟩) (by assumption) ?_; rotate_left 2; (· (simp only [List.getElem?_toArray, List.getElem?_cons_succ, List.getElem?_cons_zero]; first | done | rfl)); (· exact (fun _ _ _ h => h)); (· rfl); (· (intro w hSw; (try dsimp only at hSw); go_simp; (try with_reducible rfl))))
        (try simp only [Act.put, List.setIfInBounds_toArray, List.set_cons_zero, List.set_cons_succ])
        (refine wpAnyH_take (i := 18) (oi := ?_) (v := ?_) ?_ (by kernel_rfl) (by kernel_rfl) (by kernel_rfl) ?_ (Or.inl ⟨?_, ?_⟩) (by assumption) ?_; rotate_left 2; (· (simp only [List.getElem?_toArray, List.getElem?_cons_succ, List.getElem?_cons_zero]; first | done | rfl)); (· exact (fun _ _ _ h => h)); (· rfl); (· (intro w hSw; (try dsimp only at hSw); go_simp; (try with_reducible rfl))))
        (try simp only [Act.put, List.setIfInBounds_toArray, List.set_cons_zero, List.set_cons_succ])
        (refine wpAnyH_take (i := 19) (oi := ?_) (v := ?_) ?_ (by kernel_rfl) (by kernel_rfl) (by kernel_rfl) ?_ (Or.inl ⟨?_, ?_⟩) (by assumption) ?_; rotate_left 2; (· (simp only [List.getElem?_toArray, List.getElem?_cons_succ, List.getElem?_cons_zero]; first | done | rfl)); (· exact (fun _ _ _ h => h)); (· rfl); (· (intro w hSw; (try dsimp only at hSw); go_simp; (try with_reducible rfl))))
        (try simp only [Act.put, List.setIfInBounds_toArray, List.set_cons_zero, List.set_cons_succ])
        refine wpAnyH_ready (rs := [20]) (by kernel_rfl) (by simp) ?_
        refine AllReadyH.cons (o := ?_) ?_ (fun K hK => ?_) AllReadyH.nil
        rotate_left 1
        · (simp only [List.getElem?_toArray, List.getElem?_cons_succ, List.getElem?_cons_zero]; first | done | rfl)
        go_simp
        first | (refine hK.out _ _ ?_ (fun hq5 => ?_)) | ((first | (go_at_call 18; ((with_reducible refine (HK2.out _ (fk_own (by assumption))).mono ?_); rintro e w9 ⟨rfl, hb9⟩)) | (go_at_call 30; ((with_reducible refine (HM1.out _ (fk_own (by assumption))).mono ?_); rintro e w9 ⟨rfl, hb9⟩)) | (go_at_call 30; ((with_reducible refine (HM2.out _ (fk_own (by assumption))).mono ?_); rintro e w9 ⟨rfl, hb9⟩)) | (go_at_call 19; ((with_reducible refine (H12.out _ (fk_own (by assumption))).mono ?_); rintro e w9 ⟨rfl, hb9⟩)) | (go_at_call 19; ((with_reducible refine (H21.out _ (fk_own (by assumption))).mono ?_); rintro e w9 ⟨rfl, hb9⟩))); refine hK.out _ _ ?_ (fun hq5 => ?_)) | ((first | (go_at_call 18; ((with_reducible refine (HK2.out _ (fk_own (by assumption))).mono ?_); rintro e w9 ⟨rfl, hb9⟩)) | (go_at_call 30; ((with_reducible refine (HM1.out _ (fk_own (by assumption))).mono ?_); rintro e w9 ⟨rfl, hb9⟩)) | (go_at_call 30; ((with_reducible refine (HM2.out _ (fk_own (by assumption))).mono ?_); rintro e w9 ⟨rfl, hb9⟩)) | (go_at_call 19; ((with_reducible refine (H12.out _ (fk_own (by assumption))).mono ?_); rintro e w9 ⟨rfl, hb9⟩)) | (go_at_call 19; ((with_reducible refine (H21.out _ (fk_own (by assumption))).mono ?_); rintro e w9 ⟨rfl, hb9⟩))); go_wp2_with fail; refine hK.out _ _ ?_ (fun hq5 => ?_)) | fail
        · ((try dsimp only); (first | exact fk_below (bdrewN (Below.refl _ _) 1) HS.out | assumption | exact fk_below (by assumption) (by assumption)))
        clear hK K
        (try simp only [Act.put, List.setIfInBounds_toArray, List.set_cons_zero, List.set_cons_succ])
        clear hq4
        (refine wpAnyH_take (i := 21) (oi := ?_) (v := ?_) ?_ (by kernel_rfl) (by kernel_rfl) (by kernel_rfl) ?_ (Or.inl ⟨?_, ?_⟩) (by assumption) ?_; rotate_left 2; (· (simp only [List.getElem?_toArray, List.getElem?_cons_succ, List.getElem?_cons_zero]; first | done | rfl)); (· exact (fun _ _ _ h => h)); (· rfl); (· (intro w hSw; (try dsimp only at hSw); go_simp; (try with_reducible rfl))))
        (try simp only [Act.put, List.setIfInBounds_toArray, List.set_cons_zero, List.set_cons_succ])
        (refine wpAnyH_take (i := 22) (oi := ?_) (v := ?_) ?_ (by kernel_rfl) (by kernel_rfl) (by kernel_rfl) ?_ (Or.inl ⟨?_, ?_⟩) (by assumption) ?_; rotate_left 2; (· (simp only [List.getElem?_toArray, List.getElem?_cons_succ, List.getElem?_cons_zero]; first | done | rfl)); (· exact (fun _ _ _ h => h)); (· rfl); (· (intro w hSw; (try dsimp only at hSw); go_simp; (try with_reducible rfl))))
        (try simp only [Act.put, List.setIfInBounds_toArray, List.set_cons_zero, List.set_cons_succ])
        (refine wpAnyH_take (i := 23) (oi := ?_) (v := ?_) ?_ (by kernel_rfl) (by kernel_rfl) (by kernel_rfl) ?_ (Or.inl ⟨?_, ?_⟩) (by assumption) ?_; rotate_left 2; (· (simp only [List.getElem?_toArray, List.getElem?_cons_succ, List.getElem?_cons_zero]; first | done | rfl)); (· exact (fun _ _ _ h => h)); (· rfl); (· (intro w hSw; (try dsimp only at hSw); go_simp; (try with_reducible rfl))))
        (try simp only [Act.put, List.setIfInBounds_toArray, List.set_cons_zero, List.set_cons_succ])
        (refine wpAnyH_take (i := 24) (oi := ?_) (v := ?_) ?_ (by kernel_rfl) (by kernel_rfl) (by kernel_rfl) ?_ (Or.inl ⟨?_, ?_⟩) (by assumption) ?_; rotate_left 2; (· (simp only [List.getElem?_toArray, List.getElem?_cons_succ, List.getElem?_cons_zero]; first | done | rfl)); (· exact (fun _ _ _ h => h)); (· rfl); (· (intro w hSw; (try dsimp only at hSw); go_simp; (try with_reducible rfl))))
        (try simp only [Act.put, List.setIfInBounds_toArray, List.set_cons_zero, List.set_cons_succ])
        (refine wpAnyH_take (i := 25) (oi := ?_) (v := ?_) ?_ (by kernel_rfl) (by kernel_rfl) (by kernel_rfl) ?_ (Or.inl ⟨?_, ?_⟩) (by assumption) ?_; rotate_left 2; (· (simp only [List.getElem?_toArray, List.getElem?_cons_succ, List.getElem?_cons_zero]; first | done | rfl)); (· exact (fun _ _ _ h => h)); (· rfl); (· (intro w hSw; (try dsimp only at hSw); go_simp; (try with_reducible rfl))))
        (try simp only [Act.put, List.setIfInBounds_toArray, List.set_cons_zero, List.set_cons_succ])
        (refine wpAnyH_take (i := 26) (oi := ?_) (v := ?_) ?_ (by kernel_rfl) (by kernel_rfl) (by kernel_rfl) ?_ (Or.inl ⟨?_, ?_⟩) (by assumption) ?_; rotate_left 2; (· (simp only [List.getElem?_toArray, List.getElem?_cons_succ, List.getElem?_cons_zero]; first | done | rfl)); (· exact (fun _ _ _ h => h)); (· rfl); (· (intro w hSw; (try dsimp only at hSw); go_simp; (try with_reducible rfl))))
        (try simp only [Act.put, List.setIfInBounds_toArray, List.set_cons_zero, List.set_cons_succ])
        (refine wpAnyH_take (i := 27) (oi := ?_) (v := ?_) ?_ (by kernel_rfl) (by kernel_rfl) (by kernel_rfl) ?_ (Or.inl ⟨?_, ?_⟩) (by assumption) ?_; rotate_left 2; (· (simp only [List.getElem?_toArray, List.getElem?_cons_succ, List.getElem?_cons_zero]; first | done | rfl)); (· exact (fun _ _ _ h => h)); (· rfl); (· (intro w hSw; (try dsimp only at hSw); go_simp; (try with_reducible rfl))))
        (try simp only [Act.put, List.setIfInBounds_toArray, List.set_cons_zero, List.set_cons_succ])
        (refine wpAnyH_take (i := 28) (oi := ?_) (v := ?_) ?_ (by kernel_rfl) (by kernel_rfl) (by kernel_rfl) ?_ (Or.inl ⟨?_, ?_⟩) (by assumption) ?_; rotate_left 2; (· (simp only [List.getElem?_toArray, List.getElem?_cons_succ, List.getElem?_cons_zero]; first | done | rfl)); (· exact (fun _ _ _ h => h)); (· rfl); (· (intro w hSw; (try dsimp only at hSw); go_simp; (try with_reducible rfl))))
        (try simp only [Act.put, List.setIfInBounds_toArray, List.set_cons_zero, List.set_cons_succ])
        (refine wpAnyH_take (i := 29) (oi := ?_) (v := ?_) ?_ (by kernel_rfl) (by kernel_rfl) (by kernel_rfl) ?_ (Or.inl ⟨?_, ?_⟩) (by assumption) ?_; rotate_left 2; (· (simp only [List.getElem?_toArray, List.getElem?_cons_succ, List.getElem?_cons_zero]; first | done | rfl)); (· exact (fun _ _ _ h => h)); (· rfl); (· (intro w hSw; (try dsimp only at hSw); go_simp; (try with_reducible rfl))))
        (try simp only [Act.put, List.setIfInBounds_toArray, List.set_cons_zero, List.set_cons_succ])
        (refine wpAnyH_take (i := 30) (oi := ?_) (v := ?_) ?_ (by kernel_rfl) (by kernel_rfl) (by kernel_rfl) ?_ (Or.inl ⟨?_, ?_⟩) (by assumption) ?_; rotate_left 2; (· (simp only [List.getElem?_toArray, List.getElem?_cons_succ, List.getElem?_cons_zero]; first | done | rfl)); (· exact (fun _ _ _ h => h)); (· rfl); (· (intro w hSw; (try dsimp only at hSw); go_simp; (try with_reducible rfl))))
        (try simp only [Act.put, List.setIfInBounds_toArray, List.set_cons_zero, List.set_cons_succ])
        (refine wpAnyH_take (i := 31) (oi := ?_) (v := ?_) ?_ (by kernel_rfl) (by kernel_rfl) (by kernel_rfl) ?_ (Or.inl ⟨?_, ?_⟩) (by assumption) ?_; rotate_left 2; (· (simp only [List.getElem?_toArray, List.getElem?_cons_succ, List.getElem?_cons_zero]; first | done | rfl)); (· exact (fun _ _ _ h => h)); (· rfl); (· (intro w hSw; (try dsimp only at hSw); go_simp; (try with_reducible rfl))))
        (try simp only [Act.put, List.setIfInBounds_toArray, List.set_cons_zero, List.set_cons_succ])
        (refine wpAnyH_take (i := 32) (oi := ?_) (v := ?_) ?_ (by kernel_rfl) (by kernel_rfl) (by kernel_rfl) ?_ (Or.inl ⟨?_, ?_⟩) (by assumption) ?_; rotate_left 2; (· (simp only [List.getElem?_toArray, List.getElem?_cons_succ, List.getElem?_cons_zero]; first | done | rfl)); (· exact (fun _ _ _ h => h)); (· rfl); (· (intro w hSw; (try dsimp only at hSw); go_simp; (try with_reducible rfl))))
        (try simp only [Act.put, List.setIfInBounds_toArray, List.set_cons_zero, List.set_cons_succ])
        (refine wpAnyH_take (i := 33) (oi := ?_) (v := ?_) ?_ (by kernel_rfl) (by kernel_rfl) (by kernel_rfl) ?_ (Or.inl ⟨?_, ?_⟩) (by assumption) ?_; rotate_left 2; (· (simp only [List.getElem?_toArray, List.getElem?_cons_succ, List.getElem?_cons_zero]; first | done | rfl)); (· exact (fun _ _ _ h => h)); (· rfl); (· (intro w hSw; (try dsimp only at hSw); go_simp; (try with_reducible rfl))))
        (try simp only [Act.put, List.setIfInBounds_toArray, List.set_cons_zero, List.set_cons_succ])
        (refine wpAnyH_take (i := 34) (oi := ?_) (v := ?_) ?_ (by kernel_rfl) (by kernel_rfl) (by kernel_rfl) ?_ (Or.inl ⟨?_, ?_⟩) (by assumption) ?_; rotate_left 2; (· (simp only [List.getElem?_toArray, List.getElem?_cons_succ, List.getElem?_cons_zero]; first | done | rfl)); (· exact (fun _ _ _ h => h)); (· rfl); (· (intro w hSw; (try dsimp only at hSw); go_simp; (try with_reducible rfl))))
        (try simp only [Act.put, List.setIfInBounds_toArray, List.set_cons_zero, List.set_cons_succ])
        (refine wpAnyH_take (i := 35) (oi := ?_) (v := ?_) ?_ (by kernel_rfl) (by kernel_rfl) (by kernel_rfl) ?_ (Or.inl ⟨?_, ?_⟩) (by assumption) ?_; rotate_left 2; (· (simp only [List.getElem?_toArray, List.getElem?_cons_succ, List.getElem?_cons_zero]; first | done | rfl)); (· exact (fun _ _ _ h => h)); (· rfl); (· (intro w hSw; (try dsimp only at hSw); go_simp; (try with_reducible rfl))))
        (try simp only [Act.put, List.setIfInBounds_toArray, List.set_cons_zero, List.set_cons_succ])
        (refine wpAnyH_take (i := 36) (oi := ?_) (v := ?_) ?_ (by kernel_rfl) (by kernel_rfl) (by kernel_rfl) ?_ (Or.inl ⟨?_, ?_⟩) (by assumption) ?_; rotate_left 2; (· (simp only [List.getElem?_toArray, List.getElem?_cons_succ, List.getElem?_cons_zero]; first | done | rfl)); (· exact (fun _ _ _ h => h)); (· rfl); (· (intro w hSw; (try dsimp only at hSw); go_simp; (try with_reducible rfl))))
        (try simp only [Act.put, List.setIfInBounds_toArray, List.set_cons_zero, List.set_cons_succ])
        (refine wpAnyH_take (i := 37) (oi := ?_) (v := ?_) ?_ (by kernel_rfl) (by kernel_rfl) (by kernel_rfl) ?_ (Or.inl ⟨?_, ?_⟩) (by assumption) ?_; rotate_left 2; (· (simp only [List.getElem?_toArray, List.getElem?_cons_succ, List.getElem?_cons_zero]; first | done | rfl)); (· exact (fun _ _ _ h => h)); (· rfl); (· (intro w hSw; (try dsimp only at hSw); go_simp; (try with_reducible rfl))))
        (try simp only [Act.put, List.setIfInBounds_toArray, List.set_cons_zero, List.set_cons_succ])
        (refine wpAnyH_take (i := 38) (oi := ?_) (v := ?_) ?_ (by kernel_rfl) (by kernel_rfl) (by kernel_rfl) ?_ (Or.inl ⟨?_, ?_⟩) (by assumption) ?_; rotate_left 2; (· (simp only [List.getElem?_toArray, List.getElem?_cons_succ, List.getElem?_cons_zero]; first | done | rfl)); (· exact (fun _ _ _ h => h)); (· rfl); (· (intro w hSw; (try dsimp only at hSw); go_simp; (try with_reducible rfl))))
        (try simp only [Act.put, List.setIfInBounds_toArray, List.set_cons_zero, List.set_cons_succ])
        (refine wpAnyH_take (i := 39) (oi := ?_) (v := ?_) ?_ (by kernel_rfl) (by kernel_rfl) (by kernel_rfl) ?_ (Or.inl ⟨?_, ?_⟩) (by assumption) ?_; rotate_left 2; (· (simp only [List.getElem?_toArray, List.getElem?_cons_succ, List.getElem?_cons_zero]; first | done | rfl)); (· exact (fun _ _ _ h => h)); (· rfl); (· (intro w hSw; (try dsimp only at hSw); go_simp; (try with_reducible rfl))))
        (try simp only [Act.put, List.setIfInBounds_toArray, List.set_cons_zero, List.set_cons_succ])
        (refine wpAnyH_take (i := 40) (oi := ?_) (v := ?_) ?_ (by kernel_rfl) (by kernel_rfl) (by kernel_rfl) ?_ (Or.inl ⟨?_, ?_⟩) (by assumption) ?_; rotate_left 2; (· (simp only [List.getElem?_toArray, List.getElem?_cons_succ, List.getElem?_cons_zero]; first | done | rfl)); (· exact (fun _ _ _ h => h)); (· rfl); (· (intro w hSw; (try dsimp only at hSw); go_simp; (try with_reducible rfl))))
        (try simp only [Act.put, List.setIfInBounds_toArray, List.set_cons_zero, List.set_cons_succ])
        (refine wpAnyH_take (i := 41) (oi := ?_) (v := ?_) ?_ (by kernel_rfl) (by kernel_rfl) (by kernel_rfl) ?_ (Or.inl ⟨?_, ?_⟩) (by assumption) ?_; rotate_left 2; (· (simp only [List.getElem?_toArray, List.getElem?_cons_succ, List.getElem?_cons_zero]; first | done | rfl)); (· exact (fun _ _ _ h => h)); (· rfl); (· (intro w hSw; (try dsimp only at hSw); go_simp; (try with_reducible rfl))))
        (try simp only [Act.put, List.setIfInBounds_toArray, List.set_cons_zero, List.set_cons_succ])
        (refine wpAnyH_take (i := 42) (oi := ?_) (v := ?_) ?_ (by kernel_rfl) (by kernel_rfl) (by kernel_rfl) ?_ (Or.inl ⟨?_, ?_⟩) (by assumption) ?_; rotate_left 2; (· (simp only [List.getElem?_toArray, List.getElem?_cons_succ, List.getElem?_cons_zero]; first | done | rfl)); (· exact (fun _ _ _ h => h)); (· rfl); (· (intro w hSw; (try dsimp only at hSw); go_simp; (try with_reducible rfl))))
        (try simp only [Act.put, List.setIfInBounds_toArray, List.set_cons_zero, List.set_cons_succ])
        (refine wpAnyH_take (i := 43) (oi := ?_) (v := ?_) ?_ (by kernel_rfl) (by kernel_rfl) (by kernel_rfl) ?_ (Or.inl ⟨?_, ?_⟩) (by assumption) ?_; rotate_left 2; (· (simp only [List.getElem?_toArray, List.getElem?_cons_succ, List.getElem?_cons_zero]; first | done | rfl)); (· exact (fun _ _ _ h => h)); (· rfl); (· (intro w hSw; (try dsimp only at hSw); go_simp; (try with_reducible rfl))))
        (try simp only [Act.put, List.setIfInBounds_toArray, List.set_cons_zero, List.set_cons_succ])
        (refine wpAnyH_take (i := 44) (oi := ?_) (v := ?_) ?_ (by kernel_rfl) (by kernel_rfl) (by kernel_rfl) ?_ (Or.inl ⟨?_, ?_⟩) (by assumption) ?_; rotate_left 2; (· (simp only [List.getElem?_toArray, List.getElem?_cons_succ, List.getElem?_cons_zero]; first | done | rfl)); (· exact (fun _ _ _ h => h)); (· rfl); (· (intro w hSw; (try dsimp only at hSw); go_simp; (try with_reducible rfl))))
        (try simp only [Act.put, List.setIfInBounds_toArray, List.set_cons_zero, List.set_cons_succ])
        (refine wpAnyH_take (i := 45) (oi := ?_) (v := ?_) ?_ (by kernel_rfl) (by kernel_rfl) (by kernel_rfl) ?_ (Or.inl ⟨?_, ?_⟩) (by assumption) ?_; rotate_left 2; (· (simp only [List.getElem?_toArray, List.getElem?_cons_succ, List.getElem?_cons_zero]; first | done | rfl)); (· exact (fun _ _ _ h => h)); (· rfl); (· (intro w hSw; (try dsimp only at hSw); go_simp; (try with_reducible rfl))))
        (try simp only [Act.put, List.setIfInBounds_toArray, List.set_cons_zero, List.set_cons_succ])
        (refine wpAnyH_take (i := 46) (oi := ?_) (v := ?_) ?_ (by kernel_rfl) (by kernel_rfl) (by kernel_rfl) ?_ (Or.inl ⟨?_, ?_⟩) (by assumption) ?_; rotate_left 2; (· (simp only [List.getElem?_toArray, List.getElem?_cons_succ, List.getElem?_cons_zero]; first | done | rfl)); (· exact (fun _ _ _ h => h)); (· rfl); (· (intro w hSw; (try dsimp only at hSw); go_simp; (try with_reducible rfl))))
        (try simp only [Act.put, List.setIfInBounds_toArray, List.set_cons_zero, List.set_cons_succ])
        (refine wpAnyH_take (i := 47) (oi := ?_) (v := ?_) ?_ (by kernel_rfl) (by kernel_rfl) (by kernel_rfl) ?_ (Or.inl ⟨?_, ?_⟩) (by assumption) ?_; rotate_left 2; (· (simp only [List.getElem?_toArray, List.getElem?_cons_succ, List.getElem?_cons_zero]; first | done | rfl)); (· exact (fun _ _ _ h => h)); (· rfl); (· (intro w hSw; (try dsimp only at hSw); go_simp; (try with_reducible rfl))))
        (try simp only [Act.put, List.setIfInBounds_toArray, List.set_cons_zero, List.set_cons_succ])
        (refine wpAnyH_take (i := 48) (oi := ?_) (v := ?_) ?_ (by kernel_rfl) (by kernel_rfl) (by kernel_rfl) ?_ (Or.inl ⟨?_, ?_⟩) (by assumption) ?_; rotate_left 2; (· (simp only [List.getElem?_toArray, List.getElem?_cons_succ, List.getElem?_cons_zero]; first | done | rfl)); (· exact (fun _ _ _ h => h)); (· rfl); (· (intro w hSw; (try dsimp only at hSw); go_simp; (try with_reducible rfl))))
        (try simp only [Act.put, List.setIfInBounds_toArray, List.set_cons_zero, List.set_cons_succ])
        (refine wpAnyH_take (i := 49) (oi := ?_) (v := ?_) ?_ (by kernel_rfl) (by kernel_rfl) (by kernel_rfl) ?_ (Or.inl ⟨?_, ?_⟩) (by assumption) ?_; rotate_left 2; (· (simp only [List.getElem?_toArray, List.getElem?_cons_succ, List.getElem?_cons_zero]; first | done | rfl)); (· exact (fun _ _ _ h => h)); (· rfl); (· (intro w hSw; (try dsimp only at hSw); go_simp; (try with_reducible rfl))))
        (try simp only [Act.put, List.setIfInBounds_toArray, List.set_cons_zero, List.set_cons_succ])
        refine wpAnyH_done (by kernel_rfl) ?_ _
        go_wp2_with fail
        go_ret
        exact ⟨rfl, btrans HBR.out (fk_own (by assumption))⟩
    · have hq1 : (s1 ++ 58 :: T1 == K2) = false := by simpa using hq
      have hq2 : (s1 ++ 58 :: T1 != K2) = true := by simpa using hq
      clear HSAME
      go_wp2_with fail
      refine wp_region_held_drew (S := (fun w' => w'.cell? ⟨pa, 0, none⟩ = some (.string ⟨s1.toArray⟩) ∧ w'.cell? ⟨pa, 1, none⟩ = some (.slice a1 l1.length c1) ∧ w'.cell? ⟨pb, 0, none⟩ = some (.string ⟨s2.toArray⟩) ∧ w'.cell? ⟨pb, 1, none⟩ = some (.slice a2 l2.length c2) ∧ w'.cell? ⟨pe, 0, none⟩ = some (.string ⟨se.toArray⟩) ∧ w'.cell? ⟨pe, 1, none⟩ = some (.slice e0 el.length ecp) ∧ Below W0.heap.size W0 w' ∧ (pa < w'.heap.size ∧ pb < w'.heap.size ∧ pe < w'.heap.size))) (by kernel_rfl) ?_ (fun hq0 => ?_)
      · ((try dsimp only); (first | exact fk_below (bdrewN (Below.refl _ _) 1) HS.out | assumption | exact fk_below (by assumption) (by assumption)))
      (refine wpAnyH_take (i := 0) (oi := ?_) (v := ?_) ?_ (by kernel_rfl) (by kernel_rfl) (by kernel_rfl) ?_ (Or.inl ⟨?_, ?_⟩) (by assumption) ?_; rotate_left 2; (· (simp only [List.getElem?_toArray, List.getElem?_cons_zero]; first | done | rfl)); (· exact (fun _ _ _ h => h)); (· rfl); (· (intro w hSw; (try dsimp only at hSw); go_simp; (try with_reducible rfl))))
      (try simp only [Act.put, List.setIfInBounds_toArray, List.set_cons_zero, List.set_cons_succ])
      (refine wpAnyH_take (i := 1) (oi := ?_) (v := ?_) ?_ (by kernel_rfl) (by kernel_rfl) (by kernel_rfl) ?_ (Or.inl ⟨?_, ?_⟩) (by assumption) ?_; rotate_left 2; (· (simp only [List.getElem?_toArray, List.getElem?_cons_succ, List.getElem?_cons_zero]; first | done | rfl)); (· exact (fun _ _ _ h => h)); (· rfl); (· (intro w hSw; (try dsimp only at hSw); go_simp; (try with_reducible rfl))))
      (try simp only [Act.put, List.setIfInBounds_toArray, List.set_cons_zero, List.set_cons_succ])
      refine wpAnyH_ready (rs := [2]) (by kernel_rfl) (by simp) ?_
      refine AllReadyH.cons (o := ?_) ?_ (fun K hK => ?_) AllReadyH.nil
      rotate_left 1
      · (simp only [List.getElem?_toArray, List.getElem?_cons_succ, List.getElem?_cons_zero]; first | done | rfl)
      go_simp
      first | (refine hK.out _ _ ?_ (fun hq1 => ?_)) | ((first | (go_at_call 18; ((with_reducible refine (HK2.out _ (fk_own (by assumption))).mono ?_); rintro e w9 ⟨rfl, hb9⟩)) | (go_at_call 30; ((with_reducible refine (HM1.out _ (fk_own (by assumption))).mono ?_); rintro e w9 ⟨rfl, hb9⟩)) | (go_at_call 30; ((with_reducible refine (HM2.out _ (fk_own (by assumption))).mono ?_); rintro e w9 ⟨rfl, hb9⟩)) | (go_at_call 19; ((with_reducible refine (H12.out _ (fk_own (by assumption))).mono ?_); rintro e w9 ⟨rfl, hb9⟩)) | (go_at_call 19; ((with_reducible refine (H21.out _ (fk_own (by assumption))).mono ?_); rintro e w9 ⟨rfl, hb9⟩))); refine hK.out _ _ ?_ (fun hq1 => ?_)) | ((first | (go_at_call 18; ((with_reducible refine (HK2.out _ (fk_own (by assumption))).mono ?_); rintro e w9 ⟨rfl, hb9⟩)) | (go_at_call 30; ((with_reducible refine (HM1.out _ (fk_own (by assumption))).mono ?_); rintro e w9 ⟨rfl, hb9⟩)) | (go_at_call 30; ((with_reducible refine (HM2.out _ (fk_own (by assumption))).mono ?_); rintro e w9 ⟨rfl, hb9⟩)) | (go_at_call 19; ((with_reducible refine (H12.out _ (fk_own (by assumption))).mono ?_); rintro e w9 ⟨rfl, hb9⟩)) | (go_at_call 19; ((with_reducible refine (H21.out _ (fk_own (by assumption))).mono ?_); rintro e w9 ⟨rfl, hb9⟩))); go_wp2_with fail; refine hK.out _ _ ?_ (fun hq1 => ?_)) | fail
      · ((try dsimp only); (first | exact fk_below (bdrewN (Below.refl _ _) 1) HS.out | assumption | exact fk_below (by assumption) (by assumption)))
      clear hK K
      (try simp only [Act.put, List.setIfInBounds_toArray, List.set_cons_zero, List.set_cons_succ])
      clear hq0
      (refine wpAnyH_take (i := 3) (oi := ?_) (v := ?_) ?_ (by kernel_rfl) (by kernel_rfl) (by kernel_rfl) ?_ (Or.inl ⟨?_, ?_⟩) (by assumption) ?_; rotate_left 2; (· (simp only [List.getElem?_toArray, List.getElem?_cons_succ, List.getElem?_cons_zero]; first | done | rfl)); (· exact (fun _ _ _ h => h)); (· rfl); (· (intro w hSw; (try dsimp only at hSw); go_simp; (try with_reducible rfl))))
      (try simp only [Act.put, List.setIfInBounds_toArray, List.set_cons_zero, List.set_cons_succ])
      (refine wpAnyH_take (i := 4) (oi := ?_) (v := ?_) ?_ (by kernel_rfl) (by kernel_rfl) (by kernel_rfl) ?_ (Or.inl ⟨?_, ?_⟩) (by assumption) ?_; rotate_left 2; (· (simp only [List.getElem?_toArray, List.getElem?_cons_succ, List.getElem?_cons_zero]; first | done | rfl)); (· exact (fun _ _ _ h => h)); (· rfl); (· (intro w hSw; (try dsimp only at hSw); go_simp; (try with_reducible rfl))))
      (try simp only [Act.put, List.setIfInBounds_toArray, List.set_cons_zero, List.set_cons_succ])
      first | (refine wpAnyH_take (i := 5) (oi := ?_) (v := ?_) ?_ (by kernel_rfl) (by kernel_rfl) (by kernel_rfl) ?_ (Or.inr ⟨?_, ?_⟩) (by assumption) ?_; rotate_left 2; (· (simp only [List.getElem?_toArray, List.getElem?_cons_succ, List.getElem?_cons_zero]; first | done | rfl)); (· exact (fun _ _ _ h => h)); (· rfl); (· rfl)) | fail
      (try simp only [Act.put, List.setIfInBounds_toArray, List.set_cons_zero, List.set_cons_succ])
      first | (refine wpAnyH_take (i := 6) (oi := ?_) (v := ?_) ?_ (by kernel_rfl) (by kernel_rfl) (by kernel_rfl) ?_ (Or.inr ⟨?_, ?_⟩) (by assumption) ?_; rotate_left 2; (· (simp only [List.getElem?_toArray, List.getElem?_cons_succ, List.getElem?_cons_zero]; first | done | rfl)); (· exact (fun _ _ _ h => h)); (· rfl); (· rfl)) | fail
      (try simp only [Act.put, List.setIfInBounds_toArray, List.set_cons_zero, List.set_cons_succ])
      first | (refine wpAnyH_take (i := 7) (oi := ?_) (v := ?_) ?_ (by kernel_rfl) (by kernel_rfl) (by kernel_rfl) ?_ (Or.inr ⟨?_, ?_⟩) (by assumption) ?_; rotate_left 2; (· (simp only [List.getElem?_toArray, List.getElem?_cons_succ, List.getElem?_cons_zero]; first | done | rfl)); (· exact (fun _ _ _ h => h)); (· rfl); (· rfl)) | fail
      (try simp only [Act.put, List.setIfInBounds_toArray, List.set_cons_zero, List.set_cons_succ])
      first | (refine wpAnyH_take (i := 8) (oi := ?_) (v := ?_) ?_ (by kernel_rfl) (by kernel_rfl) (by kernel_rfl) ?_ (Or.inr ⟨?_, ?_⟩) (by assumption) ?_; rotate_left 2; (· (simp only [List.getElem?_toArray, List.getElem?_cons_succ, List.getElem?_cons_zero]; first | done | rfl)); (· exact (fun _ _ _ h => h)); (· rfl); (· rfl)) | fail
      (try simp only [Act.put, List.setIfInBounds_toArray, List.set_cons_zero, List.set_cons_succ])
      first | (refine wpAnyH_take (i := 9) (oi := ?_) (v := ?_) ?_ (by kernel_rfl) (by kernel_rfl) (by kernel_rfl) ?_ (Or.inr ⟨?_, ?_⟩) (by assumption) ?_; rotate_left 2; (· (simp only [List.getElem?_toArray, List.getElem?_cons_succ, List.getElem?_cons_zero]; first | done | rfl)); (· exact (fun _ _ _ h => h)); (· rfl); (· rfl)) | fail
      (try simp only [Act.put, List.setIfInBounds_toArray, List.set_cons_zero, List.set_cons_succ])
      first | (refine wpAnyH_take (i := 10) (oi := ?_) (v := ?_) ?_ (by kernel_rfl) (by kernel_rfl) (by kernel_rfl) ?_ (Or.inr ⟨?_, ?_⟩) (by assumption) ?_; rotate_left 2; (· (simp only [List.getElem?_toArray, List.getElem?_cons_succ, List.getElem?_cons_zero]; first | done | rfl)); (· exact (fun _ _ _ h => h)); (· rfl); (· rfl)) | fail
      (try simp only [Act.put, List.setIfInBounds_toArray, List.set_cons_zero, List.set_cons_succ])
      first | (refine wpAnyH_take (i := 11) (oi := ?_) (v := ?_) ?_ (by kernel_rfl) (by kernel_rfl) (by kernel_rfl) ?_ (Or.inr ⟨?_, ?_⟩) (by assumption) ?_; rotate_left 2; (· (simp only [List.getElem?_toArray, List.getElem?_cons_succ, List.getElem?_cons_zero]; first | done | rfl)); (· exact (fun _ _ _ h => h)); (· rfl); (· rfl)) | fail
      (try simp only [Act.put, List.setIfInBounds_toArray, List.set_cons_zero, List.set_cons_succ])
      first | (refine wpAnyH_take (i := 12) (oi := ?_) (v := ?_) ?_ (by kernel_rfl) (by kernel_rfl) (by kernel_rfl) ?_ (Or.inr ⟨?_, ?_⟩) (by assumption) ?_; rotate_left 2; (· (simp only [List.getElem?_toArray, List.getElem?_cons_succ, List.getElem?_cons_zero]; first | done | rfl)); (· exact (fun _ _ _ h => h)); (· rfl); (· rfl)) | fail
      (try simp only [Act.put, List.setIfInBounds_toArray, List.set_cons_zero, List.set_cons_succ])
      first | (refine wpAnyH_take (i := 13) (oi := ?_) (v := ?_) ?_ (by kernel_rfl) (by kernel_rfl) (by kernel_rfl) ?_ (Or.inr ⟨?_, ?_⟩) (by assumption) ?_; rotate_left 2; (· (simp only [List.getElem?_toArray, List.getElem?_cons_succ, List.getElem?_cons_zero]; first | done | rfl)); (· exact (fun _ _ _ h => h)); (· rfl); (· rfl)) | fail
      (try simp only [Act.put, List.setIfInBounds_toArray, List.set_cons_zero, List.set_cons_succ])
      first | (refine wpAnyH_take (i := 14) (oi := ?_) (v := ?_) ?_ (by kernel_rfl) (by kernel_rfl) (by kernel_rfl) ?_ (Or.inr ⟨?_, ?_⟩) (by assumption) ?_; rotate_left 2; (· (simp only [List.getElem?_toArray, List.getElem?_cons_succ, List.getElem?_cons_zero]; first | done | rfl)); (· exact (fun _ _ _ h => h)); (· rfl); (· rfl)) | fail
      (try simp only [Act.put, List.setIfInBounds_toArray, List.set_cons_zero, List.set_cons_succ])
      first | (refine wpAnyH_take (i := 15) (oi := ?_) (v := ?_) ?_ (by kernel_rfl) (by kernel_rfl) (by kernel_rfl) ?_ (Or.inr ⟨?_, ?_⟩) (by assumption) ?_; rotate_left 2; (· (simp only [List.getElem?_toArray, List.getElem?_cons_succ, List.getElem?_cons_zero]; first | done | rfl)); (· exact (fun _ _ _ h => h)); (· rfl); (· rfl)) | fail
      (try simp only [Act.put, List.setIfInBounds_toArray, List.set_cons_zero, List.set_cons_succ])
      first | (refine wpAnyH_take (i := 16) (oi := ?_) (v := ?_) ?_ (by kernel_rfl) (by kernel_rfl) (by kernel_rfl) ?_ (Or.inr ⟨?_, ?_⟩) (by assumption) ?_; rotate_left 2; (· (simp only [List.getElem?_toArray, List.getElem?_cons_succ, List.getElem?_cons_zero]; first | done | rfl)); (· exact (fun _ _ _ h => h)); (· rfl); (· rfl)) | fail
      (try simp only [Act.put, List.setIfInBounds_toArray, List.set_cons_zero, List.set_cons_succ])
      first | (refine wpAnyH_take (i := 17) (oi := ?_) (v := ?_) ?_ (by kernel_rfl) (by kernel_rfl) (by kernel_rfl) ?_ (Or.inr ⟨?_, ?_⟩) (by assumption) ?_; rotate_left 2; (· (simp only [List.getElem?_toArray, List.getElem?_cons_succ, List.getElem?_cons_zero]; first | done | rfl)); (· exact (fun _ _ _ h => h)); (· rfl); (· rfl)) | fail
      (try simp only [Act.put, List.setIfInBounds_toArray, List.set_cons_zero, List.set_cons_succ])
      first | (refine wpAnyH_take (i := 18) (oi := ?_) (v := ?_) ?_ (by kernel_rfl) (by kernel_rfl) (by kernel_rfl) ?_ (Or.inr ⟨?_, ?_⟩) (by assumption) ?_; rotate_left 2; (· (simp only [List.getElem?_toArray, List.getElem?_cons_succ, List.getElem?_cons_zero]; first | done | rfl)); (· exact (fun _ _ _ h => h)); (· rfl); (· rfl)) | fail
      (try simp only [Act.put, List.setIfInBounds_toArray, List.set_cons_zero, List.set_cons_succ])
      first | (refine wpAnyH_take (i := 19) (oi := ?_) (v := ?_) ?_ (by kernel_rfl) (by kernel_rfl) (by kernel_rfl) ?_ (Or.inr ⟨?_, ?_⟩) (by assumption) ?_; rotate_left 2; (· (simp only [List.getElem?_toArray, List.getElem?_cons_succ, List.getElem?_cons_zero]; first | done | rfl)); (· exact (fun _ _ _ h => h)); (· rfl); (· rfl)) | fail
      (try simp only [Act.put, List.setIfInBounds_toArray, List.set_cons_zero, List.set_cons_succ])
      first | (refine wpAnyH_take (i := 20) (oi := ?_) (v := ?_) ?_ (by kernel_rfl) (by kernel_rfl) (by kernel_rfl) ?_ (Or.inr ⟨?_, ?_⟩) (by assumption) ?_; rotate_left 2; (· (simp only [List.getElem?_toArray, List.getElem?_cons_succ, List.getElem?_cons_zero]; first | done | rfl)); (· exact (fun _ _ _ h => h)); (· rfl); (· rfl)) | fail
      (try simp only [Act.put, List.setIfInBounds_toArray, List.set_cons_zero, List.set_cons_succ])
      first | (refine wpAnyH_take (i := 21) (oi := ?_) (v := ?_) ?_ (by kernel_rfl) (by kernel_rfl) (by kernel_rfl) ?_ (Or.inr ⟨?_, ?_⟩) (by assumption) ?_; rotate_left 2; (· (simp only [List.getElem?_toArray, List.getElem?_cons_succ, List.getElem?_cons_zero]; first | done | rfl)); (· exact (fun _ _ _ h => h)); (· rfl); (· rfl)) | fail
      (try simp only [Act.put, List.setIfInBounds_toArray, List.set_cons_zero, List.set_cons_succ])
      (refine wpAnyH_take (i := 22) (oi := ?_) (v := ?_) ?_ (by kernel_rfl) (by kernel_rfl) (by kernel_rfl) ?_ (Or.inl ⟨?_, ?_⟩) (by assumption) ?_; rotate_left 2; (· (simp only [List.getElem?_toArray, List.getElem?_cons_succ, List.getElem?_cons_zero]; first | done | rfl)); (· exact (fun _ _ _ h => h)); (· rfl); (· (intro w hSw; (try dsimp only at hSw); go_simp; (try with_reducible rfl))))
      (try simp only [Act.put, List.setIfInBounds_toArray, List.set_cons_zero, List.set_cons_succ])
      (refine wpAnyH_take (i := 23) (oi := ?_) (v := ?_) ?_ (by kernel_rfl) (by kernel_rfl) (by kernel_rfl) ?_ (Or.inl ⟨?_, ?_⟩) (by assumption) ?_; rotate_left 2; (· (simp only [List.getElem?_toArray, List.getElem?_cons_succ, List.getElem?_cons_zero]; first | done | rfl)); (· exact (fun _ _ _ h => h)); (· rfl); (· (intro w hSw; (try dsimp only at hSw); go_simp; (try with_reducible rfl))))
      (try simp only [Act.put, List.setIfInBounds_toArray, List.set_cons_zero, List.set_cons_succ])
      (refine wpAnyH_take (i := 24) (oi := ?_) (v := ?_) ?_ (by kernel_rfl) (by kernel_rfl) (by kernel_rfl) ?_ (Or.inl ⟨?_, ?_⟩) (by assumption) ?_; rotate_left 2; (· (simp only [List.getElem?_toArray, List.getElem?_cons_succ, List.getElem?_cons_zero]; first | done | rfl)); (· exact (fun _ _ _ h => h)); (· rfl); (· (intro w hSw; (try dsimp only at hSw); go_simp; (try with_reducible rfl))))
      (try simp only [Act.put, List.setIfInBounds_toArray, List.set_cons_zero, List.set_cons_succ])
      (refine wpAnyH_take (i := 25) (oi := ?_) (v := ?_) ?_ (by kernel_rfl) (by kernel_rfl) (by kernel_rfl) ?_ (Or.inl ⟨?_, ?_⟩) (by assumption) ?_; rotate_left 2; (· (simp only [List.getElem?_toArray, List.getElem?_cons_succ, List.getElem?_cons_zero]; first | done | rfl)); (· exact (fun _ _ _ h => h)); (· rfl); (· (intro w hSw; (try dsimp only at hSw); go_simp; (try with_reducible rfl))))
      (try simp only [Act.put, List.setIfInBounds_toArray, List.set_cons_zero, List.set_cons_succ])
      (refine wpAnyH_take (i := 26) (oi := ?_) (v := ?_) ?_ (by kernel_rfl) (by kernel_rfl) (by kernel_rfl) ?_ (Or.inl ⟨?_, ?_⟩) (by assumption) ?_; rotate_left 2; (· (simp only [List.getElem?_toArray, List.getElem?_cons_succ, List.getElem?_cons_zero]; first | done | rfl)); (· exact (fun _ _ _ h => h)); (· rfl); (· (intro w hSw; (try dsimp only at hSw); go_simp; (try with_reducible rfl))))
      (try simp only [Act.put, List.setIfInBounds_toArray, List.set_cons_zero, List.set_cons_succ])
      (refine wpAnyH_take (i := 27) (oi := ?_) (v := ?_) ?_ (by kernel_rfl) (by kernel_rfl) (by kernel_rfl) ?_ (Or.inl ⟨?_, ?_⟩) (by assumption) ?_; rotate_left 2; (· (simp only [List.getElem?_toArray, List.getElem?_cons_succ, List.getElem?_cons_zero]; first | done | rfl)); (· exact (fun _ _ _ h => h)); (· rfl); (· (intro w hSw; (try dsimp only at hSw); go_simp; (try with_reducible rfl))))
      (try simp only [Act.put, List.setIfInBounds_toArray, List.set_cons_zero, List.set_cons_succ])
      (refine wpAnyH_take (i := 28) (oi := ?_) (v := ?_) ?_ (by kernel_rfl) (by kernel_rfl) (by kernel_rfl) ?_ (Or.inl ⟨?_, ?_⟩) (by assumption) ?_; rotate_left 2; (· (simp only [List.getElem?_toArray, List.getElem?_cons_succ, List.getElem?_cons_zero]; first | done | rfl)); (· exact (fun _ _ _ h => h)); (· rfl); (· (intro w hSw; (try dsimp only at hSw); go_simp; (try with_reducible rfl))))
      (try simp only [Act.put, List.setIfInBounds_toArray, List.set_cons_zero, List.set_cons_succ])
      (refine wpAnyH_take (i := 29) (oi := ?_) (v := ?_) ?_ (by kernel_rfl) (by kernel_rfl) (by kernel_rfl) ?_ (Or.inl ⟨?_, ?_⟩) (by assumption) ?_; rotate_left 2; (· (simp only [List.getElem?_toArray, List.getElem?_cons_succ, List.getElem?_cons_zero]; first | done | rfl)); (· exact (fun _ _ _ h => h)); (· rfl); (· (intro w hSw; (try dsimp only at hSw); go_simp; (try with_reducible rfl))))
      (try simp only [Act.put, List.setIfInBounds_toArray, List.set_cons_zero, List.set_cons_succ])
      (refine wpAnyH_take (i := 30) (oi := ?_) (v := ?_) ?_ (by kernel_rfl) (by kernel_rfl) (by kernel_rfl) ?_ (Or.inl ⟨?_, ?_⟩) (by assumption) ?_; rotate_left 2; (· (simp only [List.getElem?_toArray, List.getElem?_cons_succ, List.getElem?_cons_zero]; first | done | rfl)); (· exact (fun _ _ _ h => h)); (· rfl); (· (intro w hSw; (try dsimp only at hSw); go_simp; (try with_reducible rfl))))
      (try simp only [Act.put, List.setIfInBounds_toArray, List.set_cons_zero, List.set_cons_succ])
      (refine wpAnyH_take (i := 31) (oi := ?_) (v := ?_) ?_ (by kernel_rfl) (by kernel_rfl) (by kernel_rfl) ?_ (Or.inl ⟨?_, ?_⟩) (by assumption) ?_; rotate_left 2; (· (simp only [List.getElem?_toArray, List.getElem?_cons_succ, List.getElem?_cons_zero]; first | done | rfl)); (· exact (fun _ _ _ h => h)); (· rfl); (· (intro w hSw; (try dsimp only at hSw); go_simp; (try with_reducible rfl))))
      (try simp only [Act.put, List.setIfInBounds_toArray, List.set_cons_zero, List.set_cons_succ])
      (refine wpAnyH_take (i := 32) (oi := ?_) (v := ?_) ?_ (by kernel_rfl) (by kernel_rfl) (by kernel_rfl) ?_ (Or.inl ⟨?_, ?_⟩) (by assumption) ?_; rotate_left 2; (· (simp only [List.getElem?_toArray, List.getElem?_cons_succ, List.getElem?_cons_zero]; first | done | rfl)); (· exact (fun _ _ _ h => h)); (· rfl); (· (intro w hSw; (try dsimp only at hSw); go_simp; (try with_reducible rfl))))
      (try simp only [Act.put, List.setIfInBounds_toArray, List.set_cons_zero, List.set_cons_succ])
      (refine wpAnyH_take (i := 33) (oi := ?_) (v := ?_) ?_ (by kernel_rfl) (by kernel_rfl) (by kernel_rfl) ?_ (Or.inl ⟨?_, ?_⟩) (by assumption) ?_; rotate_left 2; (· (simp only [List.getElem?_toArray, List.getElem?_cons_succ, List.getElem?_cons_zero]; first | done | rfl)); (· exact (fun _ _ _ h => h)); (· rfl); (· (intro w hSw; (try dsimp only at hSw); go_simp; (try with_reducible rfl))))
      (try simp only [Act.put, List.setIfInBounds_toArray, List.set_cons_zero, List.set_cons_succ])
      (refine wpAnyH_take (i := 34) (oi := ?_) (v := ?_) ?_ (by kernel_rfl) (by kernel_rfl) (by kernel_rfl) ?_ (Or.inl ⟨?_, ?_⟩) (by assumption) ?_; rotate_left 2; (· (simp only [List.getElem?_toArray, List.getElem?_cons_succ, List.getElem?_cons_zero]; first | done | rfl)); (· exact (fun _ _ _ h => h)); (· rfl); (· (intro w hSw; (try dsimp only at hSw); go_simp; (try with_reducible rfl))))
      (try simp only [Act.put, List.setIfInBounds_toArray, List.set_cons_zero, List.set_cons_succ])
      (refine wpAnyH_take (i := 35) (oi := ?_) (v := ?_) ?_ (by kernel_rfl) (by kernel_rfl) (by kernel_rfl) ?_ (Or.inl ⟨?_, ?_⟩) (by assumption) ?_; rotate_left 2; (· (simp only [List.getElem?_toArray, List.getElem?_cons_succ, List.getElem?_cons_zero]; first | done | rfl)); (· exact (fun _ _ _ h => h)); (· rfl); (· (intro w hSw; (try dsimp only at hSw); go_simp; (try with_reducible rfl))))
      (try simp only [Act.put, List.setIfInBounds_toArray, List.set_cons_zero, List.set_cons_succ])
      (refine wpAnyH_take (i := 36) (oi := ?_) (v := ?_) ?_ (by kernel_rfl) (by kernel_rfl) (by kernel_rfl) ?_ (Or.inl ⟨?_, ?_⟩) (by assumption) ?_; rotate_left 2; (· (simp only [List.getElem?_toArray, List.getElem?_cons_succ, List.getElem?_cons_zero]; first | done | rfl)); (· exact (fun _ _ _ h => h)); (· rfl); (· (intro w hSw; (try dsimp only at hSw); go_simp; (try with_reducible rfl))))
      (try simp only [Act.put, List.setIfInBounds_toArray, List.set_cons_zero, List.set_cons_succ])
      (refine wpAnyH_take (i := 37) (oi := ?_) (v := ?_) ?_ (by kernel_rfl) (by kernel_rfl) (by kernel_rfl) ?_ (Or.inl ⟨?_, ?_⟩) (by assumption) ?_; rotate_left 2; (· (simp only [List.getElem?_toArray, List.getElem?_cons_succ, List.getElem?_cons_zero]; first | done | rfl)); (· exact (fun _ _ _ h => h)); (· rfl); (· (intro w hSw; (try dsimp only at hSw); go_simp; (try with_reducible rfl))))
      (try simp only [Act.put, List.setIfInBounds_toArray, List.set_cons_zero, List.set_cons_succ])
      (refine wpAnyH_take (i := 38) (oi := ?_) (v := ?_) ?_ (by kernel_rfl) (by kernel_rfl) (by kernel_rfl) ?_ (Or.inl ⟨?_, ?_⟩) (by assumption) ?_; rotate_left 2; (· (simp only [List.getElem?_toArray, List.getElem?_cons_succ, List.getElem?_cons_zero]; first | done | rfl)); (· exact (fun _ _ _ h => h)); (· rfl); (· (intro w hSw; (try dsimp only at hSw); go_simp; (try with_reducible rfl))))
      (try simp only [Act.put, List.setIfInBounds_toArray, List.set_cons_zero, List.set_cons_succ])
      (refine wpAnyH_take (i := 39) (oi := ?_) (v := ?_) ?_ (by kernel_rfl) (by kernel_rfl) (by kernel_rfl) ?_ (Or.inl ⟨?_, ?_⟩) (by assumption) ?_; rotate_left 2; (· (simp only [List.getElem?_toArray, List.getElem?_cons_succ, List.getElem?_cons_zero]; first | done | rfl)); (· exact (fun _ _ _ h => h)); (· rfl); (· (intro w hSw; (try dsimp only at hSw); go_simp; (try with_reducible rfl))))
      (try simp only [Act.put, List.setIfInBounds_toArray, List.set_cons_zero, List.set_cons_succ])
      (refine wpAnyH_take (i := 40) (oi := ?_) (v := ?_) ?_ (by kernel_rfl) (by kernel_rfl) (by kernel_rfl) ?_ (Or.inl ⟨?_, ?_⟩) (by assumption) ?_; rotate_left 2; (· (simp only [List.getElem?_toArray, List.getElem?_cons_succ, List.getElem?_cons_zero]; first | done | rfl)); (· exact (fun _ _ _ h => h)); (· rfl); (· (intro w hSw; (try dsimp only at hSw); go_simp; (try with_reducible rfl))))
      (try simp only [Act.put, List.setIfInBounds_toArray, List.set_cons_zero, List.set_cons_succ])
      (refine wpAnyH_take (i := 41) (oi := ?_) (v := ?_) ?_ (by kernel_rfl) (by kernel_rfl) (by kernel_rfl) ?_ (Or.inl ⟨?_, ?_⟩) (by assumption) ?_; rotate_left 2; (· (simp only [List.getElem?_toArray, List.getElem?_cons_succ, List.getElem?_cons_zero]; first | done | rfl)); (· exact (fun _ _ _ h => h)); (· rfl); (· (intro w hSw; (try dsimp only at hSw); go_simp; (try with_reducible rfl))))
      (try simp only [Act.put, List.setIfInBounds_toArray, List.set_cons_zero, List.set_cons_succ])
      (refine wpAnyH_take (i := 42) (oi := ?_) (v := ?_) ?_ (by kernel_rfl) (by kernel_rfl) (by kernel_rfl) ?_ (Or.inl ⟨?_, ?_⟩) (by assumption) ?_; rotate_left 2; (· (simp only [List.getElem?_toArray, List.getElem?_cons_succ, List.getElem?_cons_zero]; first | done | rfl)); (· exact (fun _ _ _ h => h)); (· rfl); (· (intro w hSw; (try dsimp only at hSw); go_simp; (try with_reducible rfl))))
      (try simp only [Act.put, List.setIfInBounds_toArray, List.set_cons_zero, List.set_cons_succ])
      (refine wpAnyH_take (i := 43) (oi := ?_) (v := ?_) ?_ (by kernel_rfl) (by kernel_rfl) (by kernel_rfl) ?_ (Or.inl ⟨?_, ?_⟩) (by assumption) ?_; rotate_left 2; (· (simp only [List.getElem?_toArray, List.getElem?_cons_succ, List.getElem?_cons_zero]; first | done | rfl)); (· exact (fun _ _ _ h => h)); (· rfl); (· (intro w hSw; (try dsimp only at hSw); go_simp; (try with_reducible rfl))))
      (try simp only [Act.put, List.setIfInBounds_toArray, List.set_cons_zero, List.set_cons_succ])
      (refine wpAnyH_take (i := 44) (oi := ?_) (v := ?_) ?_ (by kernel_rfl) (by kernel_rfl) (by kernel_rfl) ?_ (Or.inl ⟨?_, ?_⟩) (by assumption) ?_; rotate_left 2; (· (simp only [List.getElem?_toArray, List.getElem?_cons_succ, List.getElem?_cons_zero]; first | done | rfl)); (· exact (fun _ _ _ h => h)); (· rfl); (· (intro w hSw; (try dsimp only at hSw); go_simp; (try with_reducible rfl))))
      (try simp only [Act.put, List.setIfInBounds_toArray, List.set_cons_zero, List.set_cons_succ])
      (refine wpAnyH_take (i := 45) (oi := ?_) (v := ?_) ?_ (by kernel_rfl) (by kernel_rfl) (by kernel_rfl) ?_ (Or.inl ⟨?_, ?_⟩) (by assumption) ?_; rotate_left 2; (· (simp only [List.getElem?_toArray, List.getElem?_cons_succ, List.getElem?_cons_zero]; first | done | rfl)); (· exact (fun _ _ _ h => h)); (· rfl); (· (intro w hSw; (try dsimp only at hSw); go_simp; (try with_reducible rfl))))
      (try simp only [Act.put, List.setIfInBounds_toArray, List.set_cons_zero, List.set_cons_succ])
      (refine wpAnyH_take (i := 46) (oi := ?_) (v := ?_) ?_ (by kernel_rfl) (by kernel_rfl) (by kernel_rfl) ?_ (Or.inl ⟨?_, ?_⟩) (by assumption) ?_; rotate_left 2; (· (simp only [List.getElem?_toArray, List.getElem?_cons_succ, List.getElem?_cons_zero]; first | done | rfl)); (· exact (fun _ _ _ h => h)); (· rfl); (· (intro w hSw; (try dsimp only at hSw); go_simp; (try with_reducible rfl))))
      (try simp only [Act.put, List.setIfInBounds_toArray, List.set_cons_zero, List.set_cons_succ])
      (refine wpAnyH_take (i := 47) (oi := ?_) (v := ?_) ?_ (by kernel_rfl) (by kernel_rfl) (by kernel_rfl) ?_ (Or.inl ⟨?_, ?_⟩) (by assumption) ?_; rotate_left 2; (· (simp only [List.getElem?_toArray, List.getElem?_cons_succ, List.getElem?_cons_zero]; first | done | rfl)); (· exact (fun _ _ _ h => h)); (· rfl); (· (intro w hSw; (try dsimp only at hSw); go_simp; (try with_reducible rfl))))
      (try simp only [Act.put, List.setIfInBounds_toArray, List.set_cons_zero, List.set_cons_succ])
      (refine wpAnyH_take (i := 48) (oi := ?_) (v := ?_) ?_ (by kernel_rfl) (by kernel_rfl) (by kernel_rfl) ?_ (Or.inl ⟨?_, ?_⟩) (by assumption) ?_; rotate_left 2; (· (simp only [List.getElem?_toArray, List.getElem?_cons_succ, List.getElem?_cons_zero]; first | done | rfl)); (· exact (fun _ _ _ h => h)); (· rfl); (· (intro w hSw; (try dsimp only at hSw); go_simp; (try with_reducible rfl))))
      (try simp only [Act.put, List.setIfInBounds_toArray, List.set_cons_zero, List.set_cons_succ])
      (refine wpAnyH_take (i := 49) (oi := ?_) (v := ?_) ?_ (by kernel_rfl) (by kernel_rfl) (by kernel_rfl) ?_ (Or.inl ⟨?_, ?_⟩) (by assumption) ?_; rotate_left 2; (· (simp only [List.getElem?_toArray, List.getElem?_cons_succ, List.getElem?_cons_zero]; first | done | rfl)); (· exact (fun _ _ _ h => h)); (· rfl); (· (intro w hSw; (try dsimp only at hSw); go_simp; (try with_reducible rfl))))
      (try simp only [Act.put, List.setIfInBounds_toArray, List.set_cons_zero, List.set_cons_succ])
      refine wpAnyH_done (by kernel_rfl) ?_ _
      go_wp2_with fail
      go_ret
      exact ⟨rfl, btrans HBR.out (fk_own (by assumption))⟩
end Go.Proofs.YtceplbanfpnhbaaGreatDoor.Val
end
