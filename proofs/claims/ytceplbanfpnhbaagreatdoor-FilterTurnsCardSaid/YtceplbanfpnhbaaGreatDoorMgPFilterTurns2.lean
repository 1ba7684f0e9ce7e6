/- MERGED BY A PROGRAM OF MINE (mgx.py) out of my own texts, in their order: BoxNew, Boxes, Turns. -/
import Derived.Test.YtceplbanfpnhbaaGreatDoorMgPFilterTurns1
import Derived.Laws.BitsLemmas

section
/- A FILTER'S BOX THAT IS LAID EARLY, and written late. No walk. -/
namespace Go.Proofs.YtceplbanfpnhbaaGreatDoor.Val
open Go.RowKit Flt
/-- a filter's box, as it is laid -/
def NewBox (W : World) (q : Nat) : Prop := W.heap[q]? = some (.cells #[.string ⟨#[]⟩, .slice none 0 0] 24 (0, 0))
theorem newbox_alloc (W : World) : NewBox (W.alloc (.cells #[.string ⟨#[]⟩, .slice none 0 0] 24)) W.heap.size := by
  show (W.heap.push _)[W.heap.size]? = _
  rw [Array.getElem?_push_size]
theorem NewBox.lt {W : World} {q : Nat} (h : NewBox W q) : q < W.heap.size := by
  by_cases e : q < W.heap.size
  · exact e
  · unfold NewBox at h
    rw [Array.getElem?_eq_none (by omega)] at h; cases h
theorem NewBox.low {W W2 : World} {q : Nat} (h : NewBox W q) (hb : Below W.heap.size W W2) : NewBox W2 q := (hb.block q h.lt).trans h
theorem NewBox.grown {W W2 : World} {q : Nat} {row : Option Nat} (h : NewBox W q) (hg : W.grownBy W2 row) (hne : some q ≠ row) : NewBox W2 q := (hg.block q h.lt hne).trans h
theorem NewBox.cells {W : World} {q : Nat} (h : NewBox W q) : W.cell? ⟨q, 0, none⟩ = some (.string ⟨#[]⟩) ∧ W.cell? ⟨q, 1, none⟩ = some (.slice none 0 0) ∧ W.frozen? ⟨q, 0, none⟩ = false ∧ W.frozen? ⟨q, 1, none⟩ = false := by
  unfold NewBox at h
  refine ⟨?_, ?_, ?_, ?_⟩ <;> simp [World.cell?, World.frozen?, h]
theorem newbox_store {W : World} {q : Nat} (h : NewBox W q) (s : List UInt8) (b : Option Addr) (n cap : Nat) :
    Box2 ((W.setCell ⟨q, 0, none⟩ (.string ⟨s.toArray⟩)).setCell ⟨q, 1, none⟩ (.slice b n cap)) q s b n cap := by
  obtain ⟨c0, c1, _, _⟩ := h.cells
  exact ⟨(World.cell?_setCell_other _ _ _ _ (by simp)).trans (World.cell?_setCell_same _ _ _ c0), World.cell?_setCell_same _ _ _ ((World.cell?_setCell_other _ _ _ _ (by simp)).trans c1)⟩
theorem conds_set {W : World} {b0 : Option Addr} {l : List C} {q o : Nat} (h : Conds W b0 l) (hne : ∀ a, b0 = some a → a.block ≠ q) (u : Value) : Conds (W.setCell ⟨q, o, none⟩ u) b0 l := fun i hi => by
  obtain ⟨a, rfl, h0, h1, h2, h3, h4, h5, h6⟩ := h i hi
  have hq : (a.add (i * 7)).block ≠ q := by
    have : (a.add (i * 7)).block = a.block := by unfold Addr.add; split <;> rfl
    rw [this]; exact hne a rfl
  have k : ∀ p : Addr, p.block = (a.add (i * 7)).block → (W.setCell ⟨q, o, none⟩ u).cell? p = W.cell? p := fun p hp => World.cell?_setCell_other _ _ _ _ (by rintro rfl; exact hq hp.symm)
  exact ⟨_, rfl, (k _ rfl).trans h0, (k ⟨_, _, none⟩ rfl).trans h1, (k ⟨_, _, none⟩ rfl).trans h2, (k ⟨_, _, none⟩ rfl).trans h3, (k ⟨_, _, none⟩ rfl).trans h4, (k ⟨_, _, none⟩ rfl).trans h5, (k ⟨_, _, none⟩ rfl).trans h6⟩
theorem own_apart {w : World} {v : Value} {l : List C} {base : Nat} (h : w.ownsRow base 31 7 v l.length (flatC l)) :
    ∃ b0 cap, v = .slice b0 l.length cap ∧ Conds w b0 l ∧ ∀ q, NewBox w q → ∀ a, b0 = some a → a.block ≠ q := by
  rcases Nat.eq_zero_or_pos l.length with h0 | h0
  · rcases h.2 with ⟨rfl, h1⟩ | ⟨g, cp, cur, rfl, hb, hg, _⟩
    · have : l = [] := List.eq_nil_of_length_eq_zero h0
      subst this
      exact ⟨none, 0, rfl, fun i hi => absurd hi (Nat.not_lt_zero _), fun _ _ _ h => by cases h⟩
    · refine ⟨_, cp, rfl, fun i hi => absurd hi (by omega), fun q hq a ha => ?_⟩
      cases ha
      rintro rfl
      unfold NewBox at hq
      rw [hg] at hq
      cases hq
  · obtain ⟨b0, cap, e, hc⟩ := own_conds h
    rcases h.2 with ⟨_, h1⟩ | ⟨g, cp, cur, rfl, hb, hg, _⟩
    · omega
    · injection e with e1 e2 e3
      subst e1
      refine ⟨_, cp, rfl, hc, fun q hq a ha => ?_⟩
      cases ha
      rintro rfl
      unfold NewBox at hq
      rw [hg] at hq
      cases hq
end Go.Proofs.YtceplbanfpnhbaaGreatDoor.Val
end

section
/- BOXES OF FILTERS THAT ARE LAID EARLY AND WRITTEN LATE, what is left untouched by a store into one. No walk. -/
namespace Go.Proofs.YtceplbanfpnhbaaGreatDoor.Val
open Go.RowKit Flt
/-- the world behind a store of a filter into a box -/
def putF (W : World) (q : Nat) (s : List UInt8) (b : Option Addr) (n cap : Nat) : World := (W.setCell ⟨q, 0, none⟩ (.string ⟨s.toArray⟩)).setCell ⟨q, 1, none⟩ (.slice b n cap)
theorem conds_off {W : World} {q : Nat} (h : NewBox W q) {b : Option Addr} {L : List C} (hc : Conds W b L) : L = [] ∨ ∀ a, b = some a → a.block ≠ q := by
  cases L with
  | nil => exact .inl rfl
  | cons c r =>
    refine .inr fun a ha e => ?_
    obtain ⟨a', e', hat⟩ := hc 0 (by simp)
    rw [ha] at e'
    cases e'
    have h6 := hat.2.2.2.2.2.2
    have hb : (a.add (0 * 7)).block = q := by
      rw [← e]; unfold Addr.add; split <;> rfl
    rw [hb] at h6
    unfold NewBox at h
    simp [World.cell?, h] at h6
theorem conds_put {W : World} {q : Nat} (h : NewBox W q) {b2 : Option Addr} {L : List C} (hc : Conds W b2 L) (s : List UInt8) (b : Option Addr) (n cap : Nat) : Conds (putF W q s b n cap) b2 L := by
  rcases conds_off h hc with rfl | hne
  · exact conds_nil _ _
  · exact conds_set (conds_set hc hne _) hne _
theorem newbox_put {W : World} {q : Nat} (h : NewBox W q) (s : List UInt8) (b : Option Addr) (n cap : Nat) : Box2 (putF W q s b n cap) q s b n cap := newbox_store h s b n cap
theorem below_put {B : Nat} {W0 W : World} {q : Nat} (h : Below B W0 W) (hq : B ≤ q) (s : List UInt8) (b : Option Addr) (n cap : Nat) : Below B W0 (putF W q s b n cap) :=
  (h.setCell (p := ⟨q, 0, none⟩) hq _).setCell (p := ⟨q, 1, none⟩) hq _
end Go.Proofs.YtceplbanfpnhbaaGreatDoor.Val
end

section
/- THE WALK OF the law FilterTurns. -/
namespace Go.Proofs.YtceplbanfpnhbaaGreatDoor.Val
open Go.RowKit Flt
attribute [local go_sem] run_store_flt
theorem turn16 (n : Int) : ∃ m : Nat, m ≤ 65535 ∧ bits .and .i64 n 65535 = (m : Int) := by
  have h15 : (BitVec.ofInt 64 65535).toNat = 2 ^ 16 - 1 := by decide
  have key : (BitVec.ofInt 64 n &&& BitVec.ofInt 64 65535).toNat = (n % ((2 ^ 64 : Nat) : Int)).toNat % 2 ^ 16 := by
    rw [BitVec.toNat_and, BitVec.toNat_ofInt, h15, Nat.and_two_pow_sub_one_eq_mod]
  refine ⟨(n % ((2 ^ 64 : Nat) : Int)).toNat % 2 ^ 16, by omega, ?_⟩
  show IntKind.i64.wrap ((BitVec.ofInt 64 n &&& BitVec.ofInt 64 65535).toNat : Nat) = _
  rw [key, IntKind.wrap_i64]
  omega
theorem s6_below {w w3 w1 w2 : World} {sf : List UInt8} {a : Addr} {l : List C} {cap : Nat} (hb : Below w1.heap.size w1 w2) (h : (fun w' => w'.cell? ⟨w.heap.size, 0, none⟩ = some (.string ⟨sf.toArray⟩) ∧ w'.cell? ⟨w.heap.size, 1, none⟩ = some (.slice (some a) l.length cap) ∧ Below w3.heap.size w3 w' ∧ w.heap.size < w3.heap.size) w1) : (fun w' => w'.cell? ⟨w.heap.size, 0, none⟩ = some (.string ⟨sf.toArray⟩) ∧ w'.cell? ⟨w.heap.size, 1, none⟩ = some (.slice (some a) l.length cap) ∧ Below w3.heap.size w3 w' ∧ w.heap.size < w3.heap.size) w2 := by
  obtain ⟨h0, h1, hB, hl⟩ := h
  have hz := hB.size
  have c : ∀ o, w2.cell? ⟨w.heap.size, o, none⟩ = w1.cell? ⟨w.heap.size, o, none⟩ := fun o => hb.cell (p := ⟨w.heap.size, o, none⟩) (by show w.heap.size < _; omega)
  exact ⟨by rw [c]; exact h0, by rw [c]; exact h1, btrans hB hb, hl⟩
theorem conds_all {w : World} {a : Addr} {l : List C} (h : Conds w (some a) l) : ∀ j u, (flatC l)[j]? = some u → w.cell? (a.add j) = some u := fun j u hj => by
  have := conds_take h l.length j u
  rw [List.take_length] at this
  exact this hj
theorem news_below {w w2 : World} {g : Nat} {L : List Value} (h : ∀ j u, L[j]? = some u → w.cell? ((⟨g, 0, none⟩ : Addr).add j) = some u) (hb : Below w.heap.size w w2) : ∀ j u, L[j]? = some u → w2.cell? ((⟨g, 0, none⟩ : Addr).add j) = some u :=
  fun j u hj => (hb.cell (World.block_lt_of_cell? _ _ (h j u hj))).trans (h j u hj)
theorem s7_below {w wc w1 w2 : World} {sf : List UInt8} {a b : Addr} {pg : Nat} {l : List C} {c0 : C} {cap mc : Nat} (hb : Below w1.heap.size w1 w2) (h : (fun w' => w'.cell? ⟨w.heap.size, 0, none⟩ = some (.string ⟨sf.toArray⟩) ∧ w'.cell? ⟨w.heap.size, 1, none⟩ = some (.slice (some a) l.length cap) ∧ w'.cell? ⟨pg, 0, none⟩ = some (.string ⟨sf.toArray⟩) ∧ w'.cell? ⟨pg, 1, none⟩ = some (.slice (some b) l.length mc) ∧ (w'.cell? a = some (.string ⟨c0.name.toArray⟩) ∧ w'.cell? ⟨a.block, a.off + 1, none⟩ = some (.int .i64 c0.op) ∧ w'.cell? ⟨a.block, a.off + 2, none⟩ = some (.int .i64 c0.val.kind) ∧ w'.cell? ⟨a.block, a.off + 3, none⟩ = some (.int .i64 c0.val.int) ∧ w'.cell? ⟨a.block, a.off + 4, none⟩ = some (.float .f64 c0.val.num) ∧ w'.cell? ⟨a.block, a.off + 5, none⟩ = some (.string ⟨c0.val.text.toArray⟩) ∧ w'.cell? ⟨a.block, a.off + 6, none⟩ = some (.bool c0.val.yes)) ∧ Below wc.heap.size wc w' ∧ (w.heap.size < wc.heap.size ∧ pg < wc.heap.size)) w1) : (fun w' => w'.cell? ⟨w.heap.size, 0, none⟩ = some (.string ⟨sf.toArray⟩) ∧ w'.cell? ⟨w.heap.size, 1, none⟩ = some (.slice (some a) l.length cap) ∧ w'.cell? ⟨pg, 0, none⟩ = some (.string ⟨sf.toArray⟩) ∧ w'.cell? ⟨pg, 1, none⟩ = some (.slice (some b) l.length mc) ∧ (w'.cell? a = some (.string ⟨c0.name.toArray⟩) ∧ w'.cell? ⟨a.block, a.off + 1, none⟩ = some (.int .i64 c0.op) ∧ w'.cell? ⟨a.block, a.off + 2, none⟩ = some (.int .i64 c0.val.kind) ∧ w'.cell? ⟨a.block, a.off + 3, none⟩ = some (.int .i64 c0.val.int) ∧ w'.cell? ⟨a.block, a.off + 4, none⟩ = some (.float .f64 c0.val.num) ∧ w'.cell? ⟨a.block, a.off + 5, none⟩ = some (.string ⟨c0.val.text.toArray⟩) ∧ w'.cell? ⟨a.block, a.off + 6, none⟩ = some (.bool c0.val.yes)) ∧ Below wc.heap.size wc w' ∧ (w.heap.size < wc.heap.size ∧ pg < wc.heap.size)) w2 := by
  obtain ⟨h0, h1, h2, h3, h4, hB, l1, l2⟩ := h
  have hz := hB.size
  have c : ∀ o, w2.cell? ⟨w.heap.size, o, none⟩ = w1.cell? ⟨w.heap.size, o, none⟩ := fun o => hb.cell (p := ⟨w.heap.size, o, none⟩) (by show w.heap.size < _; omega)
  have d : ∀ o, w2.cell? ⟨pg, o, none⟩ = w1.cell? ⟨pg, o, none⟩ := fun o => hb.cell (p := ⟨pg, o, none⟩) (by show pg < _; omega)
  exact ⟨by rw [c]; exact h0, by rw [c]; exact h1, by rw [d]; exact h2, by rw [d]; exact h3, CAt.below (c := c0) h4 hb, btrans hB hb, l1, l2⟩
theorem s8_below {W0 w1 w2 : World} {sf : List UInt8} {a b : Addr} {m1 : Option Addr} {pf pg ph n nk cap mc mc1 : Nat} (hb : Below w1.heap.size w1 w2) (h : (fun w' => w'.cell? ⟨pf, 0, none⟩ = some (.string ⟨sf.toArray⟩) ∧ w'.cell? ⟨pf, 1, none⟩ = some (.slice (some a) n cap) ∧ w'.cell? ⟨pg, 0, none⟩ = some (.string ⟨sf.toArray⟩) ∧ w'.cell? ⟨pg, 1, none⟩ = some (.slice (some b) n mc) ∧ w'.cell? ⟨ph, 0, none⟩ = some (.string ⟨sf.toArray⟩) ∧ w'.cell? ⟨ph, 1, none⟩ = some (.slice m1 nk mc1) ∧ Below W0.heap.size W0 w' ∧ (pf < w'.heap.size ∧ pg < w'.heap.size ∧ ph < w'.heap.size)) w1) : (fun w' => w'.cell? ⟨pf, 0, none⟩ = some (.string ⟨sf.toArray⟩) ∧ w'.cell? ⟨pf, 1, none⟩ = some (.slice (some a) n cap) ∧ w'.cell? ⟨pg, 0, none⟩ = some (.string ⟨sf.toArray⟩) ∧ w'.cell? ⟨pg, 1, none⟩ = some (.slice (some b) n mc) ∧ w'.cell? ⟨ph, 0, none⟩ = some (.string ⟨sf.toArray⟩) ∧ w'.cell? ⟨ph, 1, none⟩ = some (.slice m1 nk mc1) ∧ Below W0.heap.size W0 w' ∧ (pf < w'.heap.size ∧ pg < w'.heap.size ∧ ph < w'.heap.size)) w2 := by
  obtain ⟨h0, h1, h2, h3, h4, h5, hB, l1, l2, l3⟩ := h
  have c : ∀ q o, q < w1.heap.size → w2.cell? ⟨q, o, none⟩ = w1.cell? ⟨q, o, none⟩ := fun q o hq => hb.cell (p := ⟨q, o, none⟩) hq
  exact ⟨by rw [c _ _ l1]; exact h0, by rw [c _ _ l1]; exact h1, by rw [c _ _ l2]; exact h2, by rw [c _ _ l2]; exact h3, by rw [c _ _ l3]; exact h4, by rw [c _ _ l3]; exact h5, btrans hB hb, Nat.lt_of_lt_of_le l1 hb.size, Nat.lt_of_lt_of_le l2 hb.size, Nat.lt_of_lt_of_le l3 hb.size⟩
theorem s8_own {W0 w1 : World} {sf : List UInt8} {a b : Addr} {m1 : Option Addr} {pf pg ph n nk cap mc mc1 : Nat} (h : (fun w' => w'.cell? ⟨pf, 0, none⟩ = some (.string ⟨sf.toArray⟩) ∧ w'.cell? ⟨pf, 1, none⟩ = some (.slice (some a) n cap) ∧ w'.cell? ⟨pg, 0, none⟩ = some (.string ⟨sf.toArray⟩) ∧ w'.cell? ⟨pg, 1, none⟩ = some (.slice (some b) n mc) ∧ w'.cell? ⟨ph, 0, none⟩ = some (.string ⟨sf.toArray⟩) ∧ w'.cell? ⟨ph, 1, none⟩ = some (.slice m1 nk mc1) ∧ Below W0.heap.size W0 w' ∧ (pf < w'.heap.size ∧ pg < w'.heap.size ∧ ph < w'.heap.size)) w1) : Below W0.heap.size W0 w1 := h.2.2.2.2.2.2.1
set_option maxRecDepth 20000 in
set_option maxHeartbeats 20000000 in
theorem fturns_law (sf : List UInt8) (a0 : Option Addr) (cap : Nat) (l : List C) (turn : Int) (w : World) (hw : Words w) (hT : Tab.Tabs w) (hl : Conds w a0 l) (hok : ∀ x ∈ l, Open.COk x) (hcl : l.length ≤ cap) (hcm : cap ≤ maxLen) (hsf : sf.length ≤ 140737488351232) :
    Calls Tryz.prog 3 #[ev sf a0 l.length cap, .int .i64 turn] w fun e w' => e = .returned (.bool true) ∧ Below w.heap.size w w' := by
  have hli (W : World) (h : Conds W a0 l) := light07_any sf a0 cap l W h (Nat.le_trans hcl hcm)
  have hri (W : World) (h : Conds W a0 l) (hm : l.length ≤ 1000000) := fright_any sf a0 cap l W h hm hsf (fun c hc => ⟨(hok c hc).1, (hok c hc).2.2.2.2.2⟩)
  have hsm := fun h : fRight sf l = true => fright_small h hok (fun c hc => (hok c hc).2.2.2.2.1)
  generalize fRight sf l = fr at *
  have HW := Lib.hid hw; have HT := Lib.hid hT; have HL := Lib.hid hl; have HLI := Lib.hid hli; have HRI := Lib.hid hri; have HSM := Lib.hid hsm
  clear hw hT hl hok hli hri hsm
  go_enter Tryz.func3, Tryz.ntmps3
  go_wp2_with fail
  refine (fit07_any _ (HW.out.below (balloc _ _))).mono ?_; rintro e w1 ⟨rfl, hb1⟩
  have hbx := (box2_new w sf a0 l.length cap 24).below hb1
  have hbr := btrans (balloc w (.cells #[.string ⟨sf.toArray⟩, .slice a0 l.length cap] 24)) hb1
  have HBX := Lib.hid hbx; have HBR := Lib.hid hbr
  obtain ⟨f0, f1⟩ := hbx
  clear hbr hb1
  go_wp2_with fail
  refine (HLI.out _ (HL.out.below HBR.out)).mono ?_; rintro e w2 ⟨⟨fb, rfl, hfl⟩, hbn⟩; (replace HBX := Lib.hid (HBX.out.below hbn); replace HBR := Lib.hid (btrans HBR.out hbn); clear hbn f0 f1; obtain ⟨f0, f1⟩ := HBX.out)
  cases fb
  · go_wp2_with fail
    go_ret
    exact ⟨rfl, HBR.out⟩
  have hl20 := hfl rfl
  clear hfl
  go_wp2_with fail
  refine (HRI.out _ (HL.out.below HBR.out) (by omega)).mono ?_; rintro e w3 ⟨rfl, hbn⟩; (replace HBX := Lib.hid (HBX.out.below hbn); replace HBR := Lib.hid (btrans HBR.out hbn); clear hbn f0 f1; obtain ⟨f0, f1⟩ := HBX.out)
  cases fr
  · go_wp2_with fail
    go_ret
    exact ⟨rfl, HBR.out⟩
  obtain ⟨z1, z2, z3, z4⟩ := HSM.out rfl
  have HOK := Lib.hid z3; have HSC := Lib.hid z4
  clear z3 z4 HSM HLI HRI
  by_cases h0 : l.length = 0
  · simp only [h0] at f1
    go_wp2_with fail
    go_ret
    exact ⟨rfl, HBR.out⟩
  have p0 : (0 : Int) < (l.length : Int) := by omega
  have p1 : ¬ (l.length : Int) = 0 := by omega
  have hc := HL.out.below HBR.out
  obtain ⟨a, rfl, -⟩ := hc 0 (by omega)
  have HC := Lib.hid hc
  clear hc HL
  obtain ⟨m, hm, hbits⟩ := turn16 turn
  go_upto_region 6 with fail
  obtain ⟨r, hr, hrl⟩ : ∃ r : Nat, (m : Int) % (l.length : Int) = (r : Int) ∧ r < l.length := ⟨m % l.length, by simp, Nat.mod_lt _ (by omega)⟩
  simp only [hr]
  clear hr hbits
  have r0 : (0 : Int) ≤ (r : Int) := by omega
  have r1 : (r : Int) ≤ (l.length : Int) := by omega
  have r2 : (r : Int) ≤ (cap : Int) := by omega
  have r3 : (l.length : Int) ≤ (cap : Int) := by omega
  have hcr : ¬ cap = r := by omega
  have hst : (fun w' => w'.cell? ⟨w.heap.size, 0, none⟩ = some (.string ⟨sf.toArray⟩) ∧ w'.cell? ⟨w.heap.size, 1, none⟩ = some (.slice (some a) l.length cap) ∧ Below w3.heap.size w3 w' ∧ w.heap.size < w3.heap.size) w3 := ⟨f0, f1, Below.refl _ _, HBX.out.lt⟩
  have HS6 := Lib.hid hst
  clear hst
  obtain ⟨i0, hi, hz0, hz1, hz2⟩ := info_parts info_cond
  have hd7 : (flatC (l.drop r)).length = (l.length - r) * 7 := by rw [flatC_len, List.length_drop]
  have ht7 : (flatC (l.take r)).length = r * 7 := by rw [flatC_len, List.length_take, Nat.min_eq_left (by omega)]
  have hml : (l.drop r ++ l.take r).length = l.length := by rw [List.length_append, List.length_drop, List.length_take]; omega
  have hrr : l.length - r + r = l.length := by omega
  have hkt : keyT sf (l.drop r ++ l.take r) = keyT sf l := key_turn HOK.out r
  have hka : ∀ c ∈ l, keyT sf ((l.drop r ++ l.take r) ++ [c]) = keyT sf l := fun c h => key_again HOK.out r c h
  have hmm : ∀ c ∈ l.drop r ++ l.take r, c ∈ l := fun c h => by
    rcases List.mem_append.1 h with h | h
    · exact List.mem_of_mem_drop h
    · exact List.mem_of_mem_take h
  have hmm2 : ∀ c ∈ l, c ∈ l.drop r ++ l.take r := fun c h => by
    rw [← List.take_append_drop r l, List.mem_append] at h
    exact List.mem_append.2 h.symm
  have HKT := Lib.hid hkt; have HKA := Lib.hid hka; have HMM := Lib.hid hmm; have HMM2 := Lib.hid hmm2
  clear hkt hka hmm hmm2
  have hl' : (l.drop r ++ l.take r).length = 0 + (l.length - r) + r := by rw [List.length_append, List.length_drop, List.length_take]; omega
  unfold maxLen at hcm
  clear f0 f1 HBX
  go_cut [5] (fun v wx => ∃ (pg : Nat) (m0 : Option Addr) (mc : Nat), v = .pointer (some ⟨pg, 0, none⟩) ∧ Hid (Box2 wx pg sf m0 l.length mc) ∧ Hid (Conds wx m0 (l.drop r ++ l.take r)) ∧ Hid (Below w3.heap.size w3 wx))
  case first => as_aux_lemma =>
    have hsall : ∀ W, Below w3.heap.size w3 W → (fun w' => w'.cell? ⟨w.heap.size, 0, none⟩ = some (.string ⟨sf.toArray⟩) ∧ w'.cell? ⟨w.heap.size, 1, none⟩ = some (.slice (some a) l.length cap) ∧ Below w3.heap.size w3 w' ∧ w.heap.size < w3.heap.size) W := fun W hb => s6_below hb HS6.out
    have HSALL := Lib.hid hsall
    clear hsall HS6 HKT HKA HMM HMM2 HW HT HSC HOK HBR
    refine wp_region_held_drew (S := (fun w' => w'.cell? ⟨w.heap.size, 0, none⟩ = some (.string ⟨sf.toArray⟩) ∧ w'.cell? ⟨w.heap.size, 1, none⟩ = some (.slice (some a) l.length cap) ∧ Below w3.heap.size w3 w' ∧ w.heap.size < w3.heap.size)) (by kernel_rfl) ?_ (fun hq0 => ?_)
    · exact HSALL.out _ (bdrewN (Below.refl _ _) 1)
    have HBB : Hid (Below w3.heap.size w3 w3.drew) := Lib.hid (bdrewN (Below.refl _ _) 1)
    generalize w3.drew = D0 at *
    (refine wpAnyH_take (i := 0) (oi := ?_) (v := ?_) ?_ (by kernel_rfl) (by kernel_rfl) (by kernel_rfl) ?_ (Or.inl ⟨?_, ?_⟩) (by assumption) ?_; rotate_left 2; (· (simp only [List.getElem?_toArray, List.getElem?_cons_zero]; first | done | rfl)); (· exact (fun _ _ _ h => h)); (· rfl); (· (intro w hSw; (try dsimp only at hSw); go_simp; (try with_reducible rfl))))
    (try simp only [Act.put, List.setIfInBounds_toArray, List.set_cons_zero, List.set_cons_succ])
    (refine wpAnyH_take (i := 1) (oi := ?_) (v := ?_) ?_ (by kernel_rfl) (by kernel_rfl) (by kernel_rfl) ?_ (Or.inl ⟨?_, ?_⟩) (by assumption) ?_; rotate_left 2; (· (simp only [List.getElem?_toArray, List.getElem?_cons_succ, List.getElem?_cons_zero]; first | done | rfl)); (· exact (fun _ _ _ h => h)); (· rfl); (· (intro w hSw; (try dsimp only at hSw); go_simp; (try with_reducible rfl))))
    (try simp only [Act.put, List.setIfInBounds_toArray, List.set_cons_zero, List.set_cons_succ])
    (refine wpAnyH_take (i := 2) (oi := ?_) (v := ?_) ?_ (by kernel_rfl) (by kernel_rfl) (by kernel_rfl) ?_ (Or.inl ⟨?_, ?_⟩) (by assumption) ?_; rotate_left 2; (· (simp only [List.getElem?_toArray, List.getElem?_cons_succ, List.getElem?_cons_zero]; first | done | rfl)); (· exact (fun _ _ _ h => h)); (· rfl); (· (intro w hSw; (try dsimp only at hSw); go_simp; (try with_reducible rfl))))
    (try simp only [Act.put, List.setIfInBounds_toArray, List.set_cons_zero, List.set_cons_succ])
    (refine wpAnyH_take (i := 3) (oi := ?_) (v := ?_) ?_ (by kernel_rfl) (by kernel_rfl) (by kernel_rfl) ?_ (Or.inl ⟨?_, ?_⟩) (by assumption) ?_; rotate_left 2; (· (simp only [List.getElem?_toArray, List.getElem?_cons_succ, List.getElem?_cons_zero]; first | done | rfl)); (· exact (fun _ _ _ h => h)); (· rfl); (· (intro w hSw; (try dsimp only at hSw); go_simp; (try with_reducible rfl))))
    (try simp only [Act.put, List.setIfInBounds_toArray, List.set_cons_zero, List.set_cons_succ])
    (refine wpAnyH_take (i := 4) (oi := ?_) (v := ?_) ?_ (by kernel_rfl) (by kernel_rfl) (by kernel_rfl) ?_ (Or.inl ⟨?_, ?_⟩) (by assumption) ?_; rotate_left 2; (· (simp only [List.getElem?_toArray, List.getElem?_cons_succ, List.getElem?_cons_zero]; first | done | rfl)); (· exact (fun _ _ _ h => h)); (· rfl); (· (intro w hSw; (try dsimp only at hSw); go_simp; (try with_reducible rfl))))
    (try simp only [Act.put, List.setIfInBounds_toArray, List.set_cons_zero, List.set_cons_succ])
    (refine wpAnyH_take (i := 5) (oi := ?_) (v := ?_) ?_ (by kernel_rfl) (by kernel_rfl) (by kernel_rfl) ?_ (Or.inl ⟨?_, ?_⟩) (by assumption) ?_; rotate_left 2; (· (simp only [List.getElem?_toArray, List.getElem?_cons_succ, List.getElem?_cons_zero]; first | done | rfl)); (· exact (fun _ _ _ h => h)); (· rfl); (· (intro w hSw; (try dsimp only at hSw); go_simp; (try with_reducible rfl))))
    (try simp only [Act.put, List.setIfInBounds_toArray, List.set_cons_zero, List.set_cons_succ])
    (refine wpAnyH_take (i := 7) (oi := ?_) (v := ?_) ?_ (by kernel_rfl) (by kernel_rfl) (by kernel_rfl) ?_ (Or.inl ⟨?_, ?_⟩) (by assumption) ?_; rotate_left 2; (· (simp only [List.getElem?_toArray, List.getElem?_cons_succ, List.getElem?_cons_zero]; first | done | rfl)); (· exact (fun _ _ _ h => h)); (· rfl); (· (intro w hSw; (try dsimp only at hSw); go_simp; (try with_reducible rfl))))
    (try simp only [Act.put, List.setIfInBounds_toArray, List.set_cons_zero, List.set_cons_succ])
    (refine wpAnyH_take (i := 8) (oi := ?_) (v := ?_) ?_ (by kernel_rfl) (by kernel_rfl) (by kernel_rfl) ?_ (Or.inl ⟨?_, ?_⟩) (by assumption) ?_; rotate_left 2; (· (simp only [List.getElem?_toArray, List.getElem?_cons_succ, List.getElem?_cons_zero]; first | done | rfl)); (· exact (fun _ _ _ h => h)); (· rfl); (· (intro w hSw; (try dsimp only at hSw); go_simp; (try with_reducible rfl))))
    (try simp only [Act.put, List.setIfInBounds_toArray, List.set_cons_zero, List.set_cons_succ])
    (refine wpAnyH_take (i := 9) (oi := ?_) (v := ?_) ?_ (by kernel_rfl) (by kernel_rfl) (by kernel_rfl) ?_ (Or.inl ⟨?_, ?_⟩) (by assumption) ?_; rotate_left 2; (· (simp only [List.getElem?_toArray, List.getElem?_cons_succ, List.getElem?_cons_zero]; first | done | rfl)); (· exact (fun _ _ _ h => h)); (· rfl); (· (intro w hSw; (try dsimp only at hSw); go_simp; (try with_reducible rfl))))
    (try simp only [Act.put, List.setIfInBounds_toArray, List.set_cons_zero, List.set_cons_succ])
    (refine wpAnyH_take (i := 10) (oi := ?_) (v := ?_) ?_ (by kernel_rfl) (by kernel_rfl) (by kernel_rfl) ?_ (Or.inl ⟨?_, ?_⟩) (by assumption) ?_; rotate_left 2; (· (simp only [List.getElem?_toArray, List.getElem?_cons_succ, List.getElem?_cons_zero]; first | done | rfl)); (· exact (fun _ _ _ h => h)); (· rfl); (· (intro w hSw; (try dsimp only at hSw); go_simp; (try with_reducible rfl))))
    (try simp only [Act.put, List.setIfInBounds_toArray, List.set_cons_zero, List.set_cons_succ])
    refine wpAnyH_ready (rs := [6, 13]) (by kernel_rfl) (by simp) ?_
    refine AllReadyH.cons (o := ?_) ?_ (fun K hK => ?_) ?_
    rotate_left 1
    · (simp only [List.getElem?_toArray, List.getElem?_cons_succ, List.getElem?_cons_zero]; first | done | rfl)
    rotate_left 1
    refine AllReadyH.cons (o := ?_) ?_ (fun K hK => ?_) AllReadyH.nil
    rotate_left 1
    · (simp only [List.getElem?_toArray, List.getElem?_cons_succ, List.getElem?_cons_zero]; first | done | rfl)
    rotate_left 1
    · skip
      refine wp_append_own _ _ _ 22 rfl _ 31 i0 _ 7 72 Tryz.underlying22 hi hz0 hz1 hz2 rfl (by decide) (.slice none 0 0) 0 [] rfl (World.ownsRow_nil _ _ _ _) (a.add (r * 7)) (l.length - r) (cap - r) (flatC (l.drop r)) rfl hd7 (conds_lie (HC.out.below HBB.out) r) (flatC_one _) (by unfold maxLen; omega) (by omega) (Nat.le_refl _) ?_
      intro v1 D1 how1 hg1 hni; clear hni
      refine hK.out _ _ ?_ (fun hq1 => ?_)
      · exact HSALL.out _ (Below.grown HBB.out hg1 HBB.out.size (fun q hq => by cases hq))
      clear hK K
      (try simp only [Act.put, List.setIfInBounds_toArray, List.set_cons_zero, List.set_cons_succ])
      clear hq0
      have hb : Below D0.heap.size D0 D1 := Below.grown (Below.refl _ _) hg1 (Nat.le_refl _) (fun q hq => by cases hq)
      have HWZ := Lib.hid HBB.out.size
      replace HBB := Lib.hid (btrans HBB.out hb)
      have HOW := Lib.hid how1
      have HZ := Lib.hid hb.size
      clear how1 hg1 hb
      refine wpAnyH_ready (rs := [11, 13]) (by kernel_rfl) (by simp) ?_
      refine AllReadyH.cons (o := ?_) ?_ (fun K hK => ?_) ?_
      rotate_left 1
      · (simp only [List.getElem?_toArray, List.getElem?_cons_succ, List.getElem?_cons_zero]; first | done | rfl)
      rotate_left 1
      refine AllReadyH.cons (o := ?_) ?_ (fun K hK => ?_) AllReadyH.nil
      rotate_left 1
      · (simp only [List.getElem?_toArray, List.getElem?_cons_succ, List.getElem?_cons_zero]; first | done | rfl)
      rotate_left 1
      · skip
        refine wp_append_own _ _ _ 22 rfl _ 31 i0 _ 7 72 Tryz.underlying22 hi hz0 hz1 hz2 rfl (by decide) v1 (0 + (l.length - r)) ([] ++ flatC (l.drop r)) rfl HOW.out a r cap (flatC (l.take r)) rfl ht7 (conds_take (HC.out.below HBB.out) r) (flatC_one _) (by unfold maxLen; omega) (by omega) HZ.out ?_
        intro v2 D2 how2 hg2 hni; clear hni
        have how3 := how2; rw [List.nil_append, ← flatC_apps, ← hl'] at how3; obtain ⟨m0, mc, rfl, hcm, hap⟩ := own_apart how3; clear how2 how3 hap
        refine hK.out _ _ ?_ (fun hq2 => ?_)
        · exact HSALL.out _ (Below.grown HBB.out hg2 HBB.out.size (fun q hq => Nat.le_trans HWZ.out (HOW.out.lt q hq).1))
        clear hK K
        (try simp only [Act.put, List.setIfInBounds_toArray, List.set_cons_zero, List.set_cons_succ])
        clear hq1
        replace HBB := Lib.hid (Below.grown HBB.out hg2 HBB.out.size (fun q hq => Nat.le_trans HWZ.out (HOW.out.lt q hq).1))
        have HCM := Lib.hid hcm; clear hcm hg2 HOW HZ HWZ
        (refine wpAnyH_take (i := 12) (oi := ?_) (v := ?_) ?_ (by kernel_rfl) (by kernel_rfl) (by kernel_rfl) ?_ (Or.inl ⟨?_, ?_⟩) (by assumption) ?_; rotate_left 2; (· (simp only [List.getElem?_toArray, List.getElem?_cons_succ, List.getElem?_cons_zero]; first | done | rfl)); (· exact (fun _ _ _ h => h)); (· rfl); (· (intro w hSw; (try dsimp only at hSw); go_simp; (try with_reducible rfl))))
        (try simp only [Act.put, List.setIfInBounds_toArray, List.set_cons_zero, List.set_cons_succ])
        refine wpAnyH_ready (rs := [13]) (by kernel_rfl) (by simp) ?_
        refine AllReadyH.cons (o := ?_) ?_ (fun K hK => ?_) AllReadyH.nil
        rotate_left 1
        · (simp only [List.getElem?_toArray, List.getElem?_cons_succ, List.getElem?_cons_zero]; first | done | rfl)
        go_simp
        refine hK.out _ _ ?_ (fun hq3 => ?_)
        · exact HSALL.out _ (btrans HBB.out (balloc _ _))
        clear hK K
        (try simp only [Act.put, List.setIfInBounds_toArray, List.set_cons_zero, List.set_cons_succ])
        clear hq2
        generalize hD : World.alloc D2 _ = D3 at hq3 ⊢
        have hb : Below D2.heap.size D2 D3 := by rw [← hD]; exact balloc _ _
        have Npg : Hid (NewBox D3 D2.heap.size) := Lib.hid (by rw [← hD]; exact newbox_alloc D2)
        have lepg : w3.heap.size ≤ D2.heap.size := HBB.out.size
        clear hD
        replace HCM := Lib.hid (HCM.out.below hb)
        replace HBB := Lib.hid (btrans HBB.out hb)
        clear hb
        generalize D2.heap.size = pg at *
        refine wpAnyH_ready (rs := [14]) (by kernel_rfl) (by simp) ?_
        refine AllReadyH.cons (o := ?_) ?_ (fun K hK => ?_) AllReadyH.nil
        rotate_left 1
        · (simp only [List.getElem?_toArray, List.getElem?_cons_succ, List.getElem?_cons_zero]; first | done | rfl)
        obtain ⟨k0, k1, k2, k3⟩ := Npg.out.cells
        have k4 := Npg.out.lt
        go_simp
        refine hK.out _ _ ?_ (fun hq4 => ?_)
        · exact HSALL.out _ (below_put HBB.out lepg _ _ _ _)
        clear hK K
        (try simp only [Act.put, List.setIfInBounds_toArray, List.set_cons_zero, List.set_cons_succ])
        clear hq3
        clear k0 k1 k2 k3 k4
        generalize hD : World.setCell (World.setCell D3 _ _) _ _ = D4 at hq4 ⊢
        have hp : D4 = putF D3 pg sf m0 l.length mc := hD.symm
        clear hD
        have HCM2 := Lib.hid (conds_put Npg.out HCM.out sf m0 l.length mc); rw [← hp] at HCM2; clear HCM; have HCM := HCM2; clear HCM2
        have Bpg := Lib.hid (newbox_put Npg.out sf m0 l.length mc); rw [← hp] at Bpg
        have HB2 := Lib.hid (below_put HBB.out lepg sf m0 l.length mc); rw [← hp] at HB2; clear HBB; have HBB := HB2; clear HB2
        clear Npg hp
        refine wpAnyH_done (by kernel_rfl) ?_ _
        go_wp2_with fail
        go_meet
        exact ⟨pg, m0, mc, rfl, Bpg, HCM, HBB⟩
      · skip
        go_simp
        refine hK.out _ _ ?_ (fun hq2 => ?_)
        · exact HSALL.out _ (btrans HBB.out (balloc _ _))
        clear hK K
        (try simp only [Act.put, List.setIfInBounds_toArray, List.set_cons_zero, List.set_cons_succ])
        clear hq1
        generalize hD : World.alloc D1 _ = D5 at hq2 ⊢
        have hb : Below D1.heap.size D1 D5 := by rw [← hD]; exact balloc _ _
        have Npg : Hid (NewBox D5 D1.heap.size) := Lib.hid (by rw [← hD]; exact newbox_alloc D1)
        have lepg : w3.heap.size ≤ D1.heap.size := HBB.out.size
        have RNpg := Lib.hid (fun (k : Nat) (h : v1.ownBlock = some k) => Nat.ne_of_lt (HOW.out.lt k h).2)
        clear hD
        replace HOW := Lib.hid (own_low7 HOW.out hb)
        replace HBB := Lib.hid (btrans HBB.out hb)
        replace HZ := Lib.hid (Nat.le_trans HZ.out (Below.size hb))
        clear hb
        generalize D1.heap.size = pg at *
        refine wpAnyH_ready (rs := [11]) (by kernel_rfl) (by simp) ?_
        refine AllReadyH.cons (o := ?_) ?_ (fun K hK => ?_) AllReadyH.nil
        rotate_left 1
        · (simp only [List.getElem?_toArray, List.getElem?_cons_succ, List.getElem?_cons_zero]; first | done | rfl)
        refine wp_append_own _ _ _ 22 rfl _ 31 i0 _ 7 72 Tryz.underlying22 hi hz0 hz1 hz2 rfl (by decide) v1 (0 + (l.length - r)) ([] ++ flatC (l.drop r)) rfl HOW.out a r cap (flatC (l.take r)) rfl ht7 (conds_take (HC.out.below HBB.out) r) (flatC_one _) (by unfold maxLen; omega) (by omega) HZ.out ?_
        intro v2 D6 how2 hg2 hni; clear hni
        have how3 := how2; rw [List.nil_append, ← flatC_apps, ← hl'] at how3; obtain ⟨m0, mc, rfl, hcm, hap⟩ := own_apart how3; clear how2 how3 hap
        refine hK.out _ _ ?_ (fun hq3 => ?_)
        · exact HSALL.out _ (Below.grown HBB.out hg2 HBB.out.size (fun q hq => Nat.le_trans HWZ.out (HOW.out.lt q hq).1))
        clear hK K
        (try simp only [Act.put, List.setIfInBounds_toArray, List.set_cons_zero, List.set_cons_succ])
        clear hq2
        replace Npg := Lib.hid (Npg.out.grown hg2 (fun h => RNpg.out _ h.symm rfl))
        replace HBB := Lib.hid (Below.grown HBB.out hg2 HBB.out.size (fun q hq => Nat.le_trans HWZ.out (HOW.out.lt q hq).1))
        have HCM := Lib.hid hcm; clear hcm hg2 HOW HZ HWZ
        (refine wpAnyH_take (i := 12) (oi := ?_) (v := ?_) ?_ (by kernel_rfl) (by kernel_rfl) (by kernel_rfl) ?_ (Or.inl ⟨?_, ?_⟩) (by assumption) ?_; rotate_left 2; (· (simp only [List.getElem?_toArray, List.getElem?_cons_succ, List.getElem?_cons_zero]; first | done | rfl)); (· exact (fun _ _ _ h => h)); (· rfl); (· (intro w hSw; (try dsimp only at hSw); go_simp; (try with_reducible rfl))))
        (try simp only [Act.put, List.setIfInBounds_toArray, List.set_cons_zero, List.set_cons_succ])
        refine wpAnyH_ready (rs := [14]) (by kernel_rfl) (by simp) ?_
        refine AllReadyH.cons (o := ?_) ?_ (fun K hK => ?_) AllReadyH.nil
        rotate_left 1
        · (simp only [List.getElem?_toArray, List.getElem?_cons_succ, List.getElem?_cons_zero]; first | done | rfl)
        obtain ⟨k0, k1, k2, k3⟩ := Npg.out.cells
        have k4 := Npg.out.lt
        go_simp
        refine hK.out _ _ ?_ (fun hq4 => ?_)
        · exact HSALL.out _ (below_put HBB.out lepg _ _ _ _)
        clear hK K
        (try simp only [Act.put, List.setIfInBounds_toArray, List.set_cons_zero, List.set_cons_succ])
        clear hq3
        clear k0 k1 k2 k3 k4
        generalize hD : World.setCell (World.setCell D6 _ _) _ _ = D7 at hq4 ⊢
        have hp : D7 = putF D6 pg sf m0 l.length mc := hD.symm
        clear hD
        have HCM2 := Lib.hid (conds_put Npg.out HCM.out sf m0 l.length mc); rw [← hp] at HCM2; clear HCM; have HCM := HCM2; clear HCM2
        have Bpg := Lib.hid (newbox_put Npg.out sf m0 l.length mc); rw [← hp] at Bpg
        have HB2 := Lib.hid (below_put HBB.out lepg sf m0 l.length mc); rw [← hp] at HB2; clear HBB; have HBB := HB2; clear HB2
        clear Npg hp
        refine wpAnyH_done (by kernel_rfl) ?_ _
        go_wp2_with fail
        go_meet
        exact ⟨pg, m0, mc, rfl, Bpg, HCM, HBB⟩
    · skip
      go_simp
      refine hK.out _ _ ?_ (fun hq1 => ?_)
      · exact HSALL.out _ (btrans HBB.out (balloc _ _))
      clear hK K
      (try simp only [Act.put, List.setIfInBounds_toArray, List.set_cons_zero, List.set_cons_succ])
      clear hq0
      generalize hD : World.alloc D0 _ = D8 at hq1 ⊢
      have hb : Below D0.heap.size D0 D8 := by rw [← hD]; exact balloc _ _
      have Npg : Hid (NewBox D8 D0.heap.size) := Lib.hid (by rw [← hD]; exact newbox_alloc D0)
      have lepg : w3.heap.size ≤ D0.heap.size := HBB.out.size
      clear hD
      replace HBB := Lib.hid (btrans HBB.out hb)
      clear hb
      generalize D0.heap.size = pg at *
      refine wpAnyH_ready (rs := [6]) (by kernel_rfl) (by simp) ?_
      refine AllReadyH.cons (o := ?_) ?_ (fun K hK => ?_) AllReadyH.nil
      rotate_left 1
      · (simp only [List.getElem?_toArray, List.getElem?_cons_succ, List.getElem?_cons_zero]; first | done | rfl)
      have ltpg := Npg.out.lt
      refine wp_append_own _ _ _ 22 rfl _ 31 i0 _ 7 72 Tryz.underlying22 hi hz0 hz1 hz2 rfl (by decide) (.slice none 0 0) 0 [] rfl (World.ownsRow_nil _ _ _ _) (a.add (r * 7)) (l.length - r) (cap - r) (flatC (l.drop r)) rfl hd7 (conds_lie (HC.out.below HBB.out) r) (flatC_one _) (by unfold maxLen; omega) (by omega) (Nat.le_refl _) ?_
      intro v1 D9 how1 hg1 hni; clear hni
      refine hK.out _ _ ?_ (fun hq2 => ?_)
      · exact HSALL.out _ (Below.grown HBB.out hg1 HBB.out.size (fun q hq => by cases hq))
      clear hK K
      (try simp only [Act.put, List.setIfInBounds_toArray, List.set_cons_zero, List.set_cons_succ])
      clear hq1
      have hb : Below D8.heap.size D8 D9 := Below.grown (Below.refl _ _) hg1 (Nat.le_refl _) (fun q hq => by cases hq)
      have HWZ := Lib.hid HBB.out.size
      replace Npg := Lib.hid (Npg.out.low hb)
      replace HBB := Lib.hid (btrans HBB.out hb)
      have HOW := Lib.hid how1
      have HZ := Lib.hid hb.size
      have RNpg := Lib.hid (fun (k : Nat) (h : v1.ownBlock = some k) => Nat.ne_of_gt (Nat.lt_of_lt_of_le ltpg (HOW.out.lt k h).1)); clear ltpg
      clear how1 hg1 hb
      refine wpAnyH_ready (rs := [11]) (by kernel_rfl) (by simp) ?_
      refine AllReadyH.cons (o := ?_) ?_ (fun K hK => ?_) AllReadyH.nil
      rotate_left 1
      · (simp only [List.getElem?_toArray, List.getElem?_cons_succ, List.getElem?_cons_zero]; first | done | rfl)
      refine wp_append_own _ _ _ 22 rfl _ 31 i0 _ 7 72 Tryz.underlying22 hi hz0 hz1 hz2 rfl (by decide) v1 (0 + (l.length - r)) ([] ++ flatC (l.drop r)) rfl HOW.out a r cap (flatC (l.take r)) rfl ht7 (conds_take (HC.out.below HBB.out) r) (flatC_one _) (by unfold maxLen; omega) (by omega) HZ.out ?_
      intro v2 D10 how2 hg2 hni; clear hni
      have how3 := how2; rw [List.nil_append, ← flatC_apps, ← hl'] at how3; obtain ⟨m0, mc, rfl, hcm, hap⟩ := own_apart how3; clear how2 how3 hap
      refine hK.out _ _ ?_ (fun hq3 => ?_)
      · exact HSALL.out _ (Below.grown HBB.out hg2 HBB.out.size (fun q hq => Nat.le_trans HWZ.out (HOW.out.lt q hq).1))
      clear hK K
      (try simp only [Act.put, List.setIfInBounds_toArray, List.set_cons_zero, List.set_cons_succ])
      clear hq2
      replace Npg := Lib.hid (Npg.out.grown hg2 (fun h => RNpg.out _ h.symm rfl))
      replace HBB := Lib.hid (Below.grown HBB.out hg2 HBB.out.size (fun q hq => Nat.le_trans HWZ.out (HOW.out.lt q hq).1))
      have HCM := Lib.hid hcm; clear hcm hg2 HOW HZ HWZ
      (refine wpAnyH_take (i := 12) (oi := ?_) (v := ?_) ?_ (by kernel_rfl) (by kernel_rfl) (by kernel_rfl) ?_ (Or.inl ⟨?_, ?_⟩) (by assumption) ?_; rotate_left 2; (· (simp only [List.getElem?_toArray, List.getElem?_cons_succ, List.getElem?_cons_zero]; first | done | rfl)); (· exact (fun _ _ _ h => h)); (· rfl); (· (intro w hSw; (try dsimp only at hSw); go_simp; (try with_reducible rfl))))
      (try simp only [Act.put, List.setIfInBounds_toArray, List.set_cons_zero, List.set_cons_succ])
      refine wpAnyH_ready (rs := [14]) (by kernel_rfl) (by simp) ?_
      refine AllReadyH.cons (o := ?_) ?_ (fun K hK => ?_) AllReadyH.nil
      rotate_left 1
      · (simp only [List.getElem?_toArray, List.getElem?_cons_succ, List.getElem?_cons_zero]; first | done | rfl)
      obtain ⟨k0, k1, k2, k3⟩ := Npg.out.cells
      have k4 := Npg.out.lt
      go_simp
      refine hK.out _ _ ?_ (fun hq4 => ?_)
      · exact HSALL.out _ (below_put HBB.out lepg _ _ _ _)
      clear hK K
      (try simp only [Act.put, List.setIfInBounds_toArray, List.set_cons_zero, List.set_cons_succ])
      clear hq3
      clear k0 k1 k2 k3 k4
      generalize hD : World.setCell (World.setCell D10 _ _) _ _ = D11 at hq4 ⊢
      have hp : D11 = putF D10 pg sf m0 l.length mc := hD.symm
      clear hD
      have HCM2 := Lib.hid (conds_put Npg.out HCM.out sf m0 l.length mc); rw [← hp] at HCM2; clear HCM; have HCM := HCM2; clear HCM2
      have Bpg := Lib.hid (newbox_put Npg.out sf m0 l.length mc); rw [← hp] at Bpg
      have HB2 := Lib.hid (below_put HBB.out lepg sf m0 l.length mc); rw [← hp] at HB2; clear HBB; have HBB := HB2; clear HB2
      clear Npg hp
      refine wpAnyH_done (by kernel_rfl) ?_ _
      go_wp2_with fail
      go_meet
      exact ⟨pg, m0, mc, rfl, Bpg, HCM, HBB⟩
  case rest =>
    obtain ⟨pg, m0, mc, rfl, BG, HCM, HB6⟩ := hcut
    generalize l.drop r ++ l.take r = M at *
    clear hd7 ht7 hl' hrr r0 r1 r2 r3 hcr hrl
    obtain ⟨b, rfl, -⟩ := HCM.out 0 (by omega)
    obtain ⟨a', ea, hca⟩ := HC.out 0 (by omega)
    cases ea
    have hcat : CAt wc a (l[0]'(by omega)) := by
      have := hca.below HB6.out
      have e : a.add (0 * 7) = a := by unfold Addr.add; split <;> simp_all
      rw [e] at this; exact this
    have hc0 : l[0]'(by omega) ∈ l := List.getElem_mem _
    generalize (l[0]'(by omega)) = c0 at *
    have HC0 := Lib.hid hc0
    have hst : (fun w' => w'.cell? ⟨w.heap.size, 0, none⟩ = some (.string ⟨sf.toArray⟩) ∧ w'.cell? ⟨w.heap.size, 1, none⟩ = some (.slice (some a) l.length cap) ∧ w'.cell? ⟨pg, 0, none⟩ = some (.string ⟨sf.toArray⟩) ∧ w'.cell? ⟨pg, 1, none⟩ = some (.slice (some b) l.length mc) ∧ (w'.cell? a = some (.string ⟨c0.name.toArray⟩) ∧ w'.cell? ⟨a.block, a.off + 1, none⟩ = some (.int .i64 c0.op) ∧ w'.cell? ⟨a.block, a.off + 2, none⟩ = some (.int .i64 c0.val.kind) ∧ w'.cell? ⟨a.block, a.off + 3, none⟩ = some (.int .i64 c0.val.int) ∧ w'.cell? ⟨a.block, a.off + 4, none⟩ = some (.float .f64 c0.val.num) ∧ w'.cell? ⟨a.block, a.off + 5, none⟩ = some (.string ⟨c0.val.text.toArray⟩) ∧ w'.cell? ⟨a.block, a.off + 6, none⟩ = some (.bool c0.val.yes)) ∧ Below wc.heap.size wc w' ∧ (w.heap.size < wc.heap.size ∧ pg < wc.heap.size)) wc := by
      obtain ⟨x0, x1, _, x2⟩ := s6_below HB6.out HS6.out
      obtain ⟨y0, y1⟩ := BG.out
      exact ⟨x0, x1, y0, y1, hcat, Below.refl _ _, Nat.lt_of_lt_of_le x2 HB6.out.size, BG.out.lt⟩
    have HS7 := Lib.hid hst
    have hfm : (flatC M).length = l.length * 7 := by rw [flatC_len, hml]
    have p0n : 0 < l.length := by omega
    have hl' : (M ++ [c0]).length = 0 + l.length + 1 := by rw [List.length_append, hml]; simp
    clear hst hc0 hcat hca
    go_upto_region 7 with fail
    go_cut [6] (fun v wx => ∃ (ph : Nat) (m1 : Option Addr) (mc1 : Nat), v = .pointer (some ⟨ph, 0, none⟩) ∧ Hid (Box2 wx ph sf m1 (l.length + 1) mc1) ∧ Hid (Conds wx m1 (M ++ [c0])) ∧ Hid (Below wc.heap.size wc wx))
    case first =>
      have hsall : ∀ W, Below wc.heap.size wc W → (fun w' => w'.cell? ⟨w.heap.size, 0, none⟩ = some (.string ⟨sf.toArray⟩) ∧ w'.cell? ⟨w.heap.size, 1, none⟩ = some (.slice (some a) l.length cap) ∧ w'.cell? ⟨pg, 0, none⟩ = some (.string ⟨sf.toArray⟩) ∧ w'.cell? ⟨pg, 1, none⟩ = some (.slice (some b) l.length mc) ∧ (w'.cell? a = some (.string ⟨c0.name.toArray⟩) ∧ w'.cell? ⟨a.block, a.off + 1, none⟩ = some (.int .i64 c0.op) ∧ w'.cell? ⟨a.block, a.off + 2, none⟩ = some (.int .i64 c0.val.kind) ∧ w'.cell? ⟨a.block, a.off + 3, none⟩ = some (.int .i64 c0.val.int) ∧ w'.cell? ⟨a.block, a.off + 4, none⟩ = some (.float .f64 c0.val.num) ∧ w'.cell? ⟨a.block, a.off + 5, none⟩ = some (.string ⟨c0.val.text.toArray⟩) ∧ w'.cell? ⟨a.block, a.off + 6, none⟩ = some (.bool c0.val.yes)) ∧ Below wc.heap.size wc w' ∧ (w.heap.size < wc.heap.size ∧ pg < wc.heap.size)) W := fun W hb => s7_below hb HS7.out
      have HSALL := Lib.hid hsall
      clear hsall HS7 HS6 HKT HKA HMM HMM2 HW HT HSC HOK HBR BG HB6 HC HC0
      refine wp_region_held_drew (S := (fun w' => w'.cell? ⟨w.heap.size, 0, none⟩ = some (.string ⟨sf.toArray⟩) ∧ w'.cell? ⟨w.heap.size, 1, none⟩ = some (.slice (some a) l.length cap) ∧ w'.cell? ⟨pg, 0, none⟩ = some (.string ⟨sf.toArray⟩) ∧ w'.cell? ⟨pg, 1, none⟩ = some (.slice (some b) l.length mc) ∧ (w'.cell? a = some (.string ⟨c0.name.toArray⟩) ∧ w'.cell? ⟨a.block, a.off + 1, none⟩ = some (.int .i64 c0.op) ∧ w'.cell? ⟨a.block, a.off + 2, none⟩ = some (.int .i64 c0.val.kind) ∧ w'.cell? ⟨a.block, a.off + 3, none⟩ = some (.int .i64 c0.val.int) ∧ w'.cell? ⟨a.block, a.off + 4, none⟩ = some (.float .f64 c0.val.num) ∧ w'.cell? ⟨a.block, a.off + 5, none⟩ = some (.string ⟨c0.val.text.toArray⟩) ∧ w'.cell? ⟨a.block, a.off + 6, none⟩ = some (.bool c0.val.yes)) ∧ Below wc.heap.size wc w' ∧ (w.heap.size < wc.heap.size ∧ pg < wc.heap.size))) (by kernel_rfl) ?_ (fun hq0 => ?_)
      · exact HSALL.out _ (bdrewN (Below.refl _ _) 1)
      have HBB : Hid (Below wc.heap.size wc wc.drew) := Lib.hid (bdrewN (Below.refl _ _) 1)
      generalize wc.drew = D0 at *
      (refine wpAnyH_take (i := 0) (oi := ?_) (v := ?_) ?_ (by kernel_rfl) (by kernel_rfl) (by kernel_rfl) ?_ (Or.inl ⟨?_, ?_⟩) (by assumption) ?_; rotate_left 2; (· (simp only [List.getElem?_toArray, List.getElem?_cons_zero]; first | done | rfl)); (· exact (fun _ _ _ h => h)); (· rfl); (· (intro w hSw; (try dsimp only at hSw); go_simp; (try with_reducible rfl))))
      (try simp only [Act.put, List.setIfInBounds_toArray, List.set_cons_zero, List.set_cons_succ])
      (refine wpAnyH_take (i := 1) (oi := ?_) (v := ?_) ?_ (by kernel_rfl) (by kernel_rfl) (by kernel_rfl) ?_ (Or.inl ⟨?_, ?_⟩) (by assumption) ?_; rotate_left 2; (· (simp only [List.getElem?_toArray, List.getElem?_cons_succ, List.getElem?_cons_zero]; first | done | rfl)); (· exact (fun _ _ _ h => h)); (· rfl); (· (intro w hSw; (try dsimp only at hSw); go_simp; (try with_reducible rfl))))
      (try simp only [Act.put, List.setIfInBounds_toArray, List.set_cons_zero, List.set_cons_succ])
      (refine wpAnyH_take (i := 2) (oi := ?_) (v := ?_) ?_ (by kernel_rfl) (by kernel_rfl) (by kernel_rfl) ?_ (Or.inl ⟨?_, ?_⟩) (by assumption) ?_; rotate_left 2; (· (simp only [List.getElem?_toArray, List.getElem?_cons_succ, List.getElem?_cons_zero]; first | done | rfl)); (· exact (fun _ _ _ h => h)); (· rfl); (· (intro w hSw; (try dsimp only at hSw); go_simp; (try with_reducible rfl))))
      (try simp only [Act.put, List.setIfInBounds_toArray, List.set_cons_zero, List.set_cons_succ])
      (refine wpAnyH_take (i := 3) (oi := ?_) (v := ?_) ?_ (by kernel_rfl) (by kernel_rfl) (by kernel_rfl) ?_ (Or.inl ⟨?_, ?_⟩) (by assumption) ?_; rotate_left 2; (· (simp only [List.getElem?_toArray, List.getElem?_cons_succ, List.getElem?_cons_zero]; first | done | rfl)); (· exact (fun _ _ _ h => h)); (· rfl); (· (intro w hSw; (try dsimp only at hSw); go_simp; (try with_reducible rfl))))
      (try simp only [Act.put, List.setIfInBounds_toArray, List.set_cons_zero, List.set_cons_succ])
      (refine wpAnyH_take (i := 5) (oi := ?_) (v := ?_) ?_ (by kernel_rfl) (by kernel_rfl) (by kernel_rfl) ?_ (Or.inl ⟨?_, ?_⟩) (by assumption) ?_; rotate_left 2; (· (simp only [List.getElem?_toArray, List.getElem?_cons_succ, List.getElem?_cons_zero]; first | done | rfl)); (· exact (fun _ _ _ h => h)); (· rfl); (· (intro w hSw; (try dsimp only at hSw); go_simp; (try with_reducible rfl))))
      (try simp only [Act.put, List.setIfInBounds_toArray, List.set_cons_zero, List.set_cons_succ])
      (refine wpAnyH_take (i := 6) (oi := ?_) (v := ?_) ?_ (by kernel_rfl) (by kernel_rfl) (by kernel_rfl) ?_ (Or.inl ⟨?_, ?_⟩) (by assumption) ?_; rotate_left 2; (· (simp only [List.getElem?_toArray, List.getElem?_cons_succ, List.getElem?_cons_zero]; first | done | rfl)); (· exact (fun _ _ _ h => h)); (· rfl); (· (intro w hSw; (try dsimp only at hSw); go_simp; (try with_reducible rfl))))
      (try simp only [Act.put, List.setIfInBounds_toArray, List.set_cons_zero, List.set_cons_succ])
      (refine wpAnyH_take (i := 7) (oi := ?_) (v := ?_) ?_ (by kernel_rfl) (by kernel_rfl) (by kernel_rfl) ?_ (Or.inl ⟨?_, ?_⟩) (by assumption) ?_; rotate_left 2; (· (simp only [List.getElem?_toArray, List.getElem?_cons_succ, List.getElem?_cons_zero]; first | done | rfl)); (· exact (fun _ _ _ h => h)); (· rfl); (· (intro w hSw; (try dsimp only at hSw); go_simp; (try with_reducible rfl))))
      (try simp only [Act.put, List.setIfInBounds_toArray, List.set_cons_zero, List.set_cons_succ])
      (refine wpAnyH_take (i := 8) (oi := ?_) (v := ?_) ?_ (by kernel_rfl) (by kernel_rfl) (by kernel_rfl) ?_ (Or.inl ⟨?_, ?_⟩) (by assumption) ?_; rotate_left 2; (· (simp only [List.getElem?_toArray, List.getElem?_cons_succ, List.getElem?_cons_zero]; first | done | rfl)); (· exact (fun _ _ _ h => h)); (· rfl); (· (intro w hSw; (try dsimp only at hSw); go_simp; (try with_reducible rfl))))
      (try simp only [Act.put, List.setIfInBounds_toArray, List.set_cons_zero, List.set_cons_succ])
      refine wpAnyH_ready (rs := [4, 9, 12]) (by kernel_rfl) (by simp) ?_
      refine AllReadyH.cons (o := ?_) ?_ (fun K hK => ?_) ?_
      rotate_left 1
      · (simp only [List.getElem?_toArray, List.getElem?_cons_succ, List.getElem?_cons_zero]; first | done | rfl)
      rotate_left 1
      refine AllReadyH.cons (o := ?_) ?_ (fun K hK => ?_) ?_
      rotate_left 1
      · (simp only [List.getElem?_toArray, List.getElem?_cons_succ, List.getElem?_cons_zero]; first | done | rfl)
      rotate_left 1
      refine AllReadyH.cons (o := ?_) ?_ (fun K hK => ?_) AllReadyH.nil
      rotate_left 1
      · (simp only [List.getElem?_toArray, List.getElem?_cons_succ, List.getElem?_cons_zero]; first | done | rfl)
      rotate_left 1
      · skip
        refine wp_append_own _ _ _ 22 rfl _ 31 i0 _ 7 72 Tryz.underlying22 hi hz0 hz1 hz2 rfl (by decide) (.slice none 0 0) 0 [] rfl (World.ownsRow_nil _ _ _ _) b l.length mc (flatC M) rfl hfm (conds_all (HCM.out.below HBB.out)) (flatC_one _) (by unfold maxLen; omega) (by omega) (Nat.le_refl _) ?_
        intro v1 D1 how1 hg1 hni; clear hni
        refine hK.out _ _ ?_ (fun hq1 => ?_)
        · exact HSALL.out _ (Below.grown HBB.out hg1 HBB.out.size (fun q hq => by cases hq))
        clear hK K
        (try simp only [Act.put, List.setIfInBounds_toArray, List.set_cons_zero, List.set_cons_succ])
        clear hq0
        have hb : Below D0.heap.size D0 D1 := Below.grown (Below.refl _ _) hg1 (Nat.le_refl _) (fun q hq => by cases hq)
        have HWZ := Lib.hid HBB.out.size
        replace HBB := Lib.hid (btrans HBB.out hb)
        have HOW := Lib.hid how1
        have HZ := Lib.hid hb.size
        clear how1 hg1 hb
        refine wpAnyH_ready (rs := [9, 12]) (by kernel_rfl) (by simp) ?_
        refine AllReadyH.cons (o := ?_) ?_ (fun K hK => ?_) ?_
        rotate_left 1
        · (simp only [List.getElem?_toArray, List.getElem?_cons_succ, List.getElem?_cons_zero]; first | done | rfl)
        rotate_left 1
        refine AllReadyH.cons (o := ?_) ?_ (fun K hK => ?_) AllReadyH.nil
        rotate_left 1
        · (simp only [List.getElem?_toArray, List.getElem?_cons_succ, List.getElem?_cons_zero]; first | done | rfl)
        rotate_left 1
        · skip
          go_simp
          refine hK.out _ _ ?_ (fun hq2 => ?_)
          · exact HSALL.out _ (btrans HBB.out (balloc _ _))
          clear hK K
          (try simp only [Act.put, List.setIfInBounds_toArray, List.set_cons_zero, List.set_cons_succ])
          clear hq1
          generalize hD : World.alloc D1 _ = D2 at hq2 ⊢
          have hb : Below D1.heap.size D1 D2 := by rw [← hD]; exact balloc _ _
          have HV : Hid (∀ j u, (flatC [c0])[j]? = some u → D2.cell? ((⟨D1.heap.size, 0, none⟩ : Addr).add j) = some u) := Lib.hid (by rw [← hD]; exact new_cond D1 _ rfl c0 _)
          clear hD
          replace HOW := Lib.hid (own_low7 HOW.out hb)
          replace HBB := Lib.hid (btrans HBB.out hb)
          replace HZ := Lib.hid (Nat.le_trans HZ.out (Below.size hb))
          clear hb
          generalize D1.heap.size = pv at *
          refine wpAnyH_ready (rs := [10, 12]) (by kernel_rfl) (by simp) ?_
          refine AllReadyH.cons (o := ?_) ?_ (fun K hK => ?_) ?_
          rotate_left 1
          · (simp only [List.getElem?_toArray, List.getElem?_cons_succ, List.getElem?_cons_zero]; first | done | rfl)
          rotate_left 1
          refine AllReadyH.cons (o := ?_) ?_ (fun K hK => ?_) AllReadyH.nil
          rotate_left 1
          · (simp only [List.getElem?_toArray, List.getElem?_cons_succ, List.getElem?_cons_zero]; first | done | rfl)
          rotate_left 1
          · skip
            refine wp_append_own _ _ _ 22 rfl _ 31 i0 _ 7 72 Tryz.underlying22 hi hz0 hz1 hz2 rfl (by decide) v1 (0 + l.length) ([] ++ flatC M) rfl HOW.out ⟨pv, 0, none⟩ 1 1 (flatC [c0]) rfl rfl HV.out (flatC_one _) (by unfold maxLen; omega) (by omega) HZ.out ?_
            intro v2 D3 how2 hg2 hni; clear hni
            have how3 := how2; rw [List.nil_append, ← flatC_app, ← hl'] at how3; obtain ⟨m1, mc1, rfl, hcm, hap⟩ := own_apart how3; clear how2 how3 hap
            refine hK.out _ _ ?_ (fun hq3 => ?_)
            · exact HSALL.out _ (Below.grown HBB.out hg2 HBB.out.size (fun q hq => Nat.le_trans HWZ.out (HOW.out.lt q hq).1))
            clear hK K
            (try simp only [Act.put, List.setIfInBounds_toArray, List.set_cons_zero, List.set_cons_succ])
            clear hq2
            replace HBB := Lib.hid (Below.grown HBB.out hg2 HBB.out.size (fun q hq => Nat.le_trans HWZ.out (HOW.out.lt q hq).1))
            have HCN := Lib.hid hcm; clear hcm hg2 HOW HZ HWZ
            (refine wpAnyH_take (i := 11) (oi := ?_) (v := ?_) ?_ (by kernel_rfl) (by kernel_rfl) (by kernel_rfl) ?_ (Or.inl ⟨?_, ?_⟩) (by assumption) ?_; rotate_left 2; (· (simp only [List.getElem?_toArray, List.getElem?_cons_succ, List.getElem?_cons_zero]; first | done | rfl)); (· exact (fun _ _ _ h => h)); (· rfl); (· (intro w hSw; (try dsimp only at hSw); go_simp; (try with_reducible rfl))))
            (try simp only [Act.put, List.setIfInBounds_toArray, List.set_cons_zero, List.set_cons_succ])
            refine wpAnyH_ready (rs := [12]) (by kernel_rfl) (by simp) ?_
            refine AllReadyH.cons (o := ?_) ?_ (fun K hK => ?_) AllReadyH.nil
            rotate_left 1
            · (simp only [List.getElem?_toArray, List.getElem?_cons_succ, List.getElem?_cons_zero]; first | done | rfl)
            go_simp
            refine hK.out _ _ ?_ (fun hq4 => ?_)
            · exact HSALL.out _ (btrans HBB.out (balloc _ _))
            clear hK K
            (try simp only [Act.put, List.setIfInBounds_toArray, List.set_cons_zero, List.set_cons_succ])
            clear hq3
            generalize hD : World.alloc D3 _ = D4 at hq4 ⊢
            have hb : Below D3.heap.size D3 D4 := by rw [← hD]; exact balloc _ _
            have Nph : Hid (NewBox D4 D3.heap.size) := Lib.hid (by rw [← hD]; exact newbox_alloc D3)
            have leph : wc.heap.size ≤ D3.heap.size := HBB.out.size
            clear hD
            replace HCN := Lib.hid (HCN.out.below hb)
            replace HBB := Lib.hid (btrans HBB.out hb)
            clear hb
            generalize D3.heap.size = ph at *
            refine wpAnyH_ready (rs := [13]) (by kernel_rfl) (by simp) ?_
            refine AllReadyH.cons (o := ?_) ?_ (fun K hK => ?_) AllReadyH.nil
            rotate_left 1
            · (simp only [List.getElem?_toArray, List.getElem?_cons_succ, List.getElem?_cons_zero]; first | done | rfl)
            obtain ⟨k0, k1, k2, k3⟩ := Nph.out.cells
            have k4 := Nph.out.lt
            go_simp
            refine hK.out _ _ ?_ (fun hq5 => ?_)
            · exact HSALL.out _ (below_put HBB.out leph _ _ _ _)
            clear hK K
            (try simp only [Act.put, List.setIfInBounds_toArray, List.set_cons_zero, List.set_cons_succ])
            clear hq4
            clear k0 k1 k2 k3 k4
            generalize hD : World.setCell (World.setCell D4 _ _) _ _ = D5 at hq5 ⊢
            have hp : D5 = putF D4 ph sf m1 (l.length + 1) mc1 := hD.symm
            clear hD
            have HCN2 := Lib.hid (conds_put Nph.out HCN.out sf m1 (l.length + 1) mc1); rw [← hp] at HCN2; clear HCN; have HCN := HCN2; clear HCN2
            have Bph := Lib.hid (newbox_put Nph.out sf m1 (l.length + 1) mc1); rw [← hp] at Bph
            have HB2 := Lib.hid (below_put HBB.out leph sf m1 (l.length + 1) mc1); rw [← hp] at HB2; clear HBB; have HBB := HB2; clear HB2
            clear Nph hp
            refine wpAnyH_done (by kernel_rfl) ?_ _
            go_wp2_with fail
            go_meet
            exact ⟨ph, m1, mc1, rfl, Bph, HCN, HBB⟩
          · skip
            go_simp
            refine hK.out _ _ ?_ (fun hq3 => ?_)
            · exact HSALL.out _ (btrans HBB.out (balloc _ _))
            clear hK K
            (try simp only [Act.put, List.setIfInBounds_toArray, List.set_cons_zero, List.set_cons_succ])
            clear hq2
            generalize hD : World.alloc D2 _ = D6 at hq3 ⊢
            have hb : Below D2.heap.size D2 D6 := by rw [← hD]; exact balloc _ _
            have Nph : Hid (NewBox D6 D2.heap.size) := Lib.hid (by rw [← hD]; exact newbox_alloc D2)
            have leph : wc.heap.size ≤ D2.heap.size := HBB.out.size
            have RNph := Lib.hid (fun (k : Nat) (h : v1.ownBlock = some k) => Nat.ne_of_lt (HOW.out.lt k h).2)
            clear hD
            replace HOW := Lib.hid (own_low7 HOW.out hb)
            replace HV := Lib.hid (news_below HV.out hb)
            replace HBB := Lib.hid (btrans HBB.out hb)
            replace HZ := Lib.hid (Nat.le_trans HZ.out (Below.size hb))
            clear hb
            generalize D2.heap.size = ph at *
            refine wpAnyH_ready (rs := [10]) (by kernel_rfl) (by simp) ?_
            refine AllReadyH.cons (o := ?_) ?_ (fun K hK => ?_) AllReadyH.nil
            rotate_left 1
            · (simp only [List.getElem?_toArray, List.getElem?_cons_succ, List.getElem?_cons_zero]; first | done | rfl)
            refine wp_append_own _ _ _ 22 rfl _ 31 i0 _ 7 72 Tryz.underlying22 hi hz0 hz1 hz2 rfl (by decide) v1 (0 + l.length) ([] ++ flatC M) rfl HOW.out ⟨pv, 0, none⟩ 1 1 (flatC [c0]) rfl rfl HV.out (flatC_one _) (by unfold maxLen; omega) (by omega) HZ.out ?_
            intro v2 D7 how2 hg2 hni; clear hni
            have how3 := how2; rw [List.nil_append, ← flatC_app, ← hl'] at how3; obtain ⟨m1, mc1, rfl, hcm, hap⟩ := own_apart how3; clear how2 how3 hap
            refine hK.out _ _ ?_ (fun hq4 => ?_)
            · exact HSALL.out _ (Below.grown HBB.out hg2 HBB.out.size (fun q hq => Nat.le_trans HWZ.out (HOW.out.lt q hq).1))
            clear hK K
            (try simp only [Act.put, List.setIfInBounds_toArray, List.set_cons_zero, List.set_cons_succ])
            clear hq3
            replace Nph := Lib.hid (Nph.out.grown hg2 (fun h => RNph.out _ h.symm rfl))
            replace HBB := Lib.hid (Below.grown HBB.out hg2 HBB.out.size (fun q hq => Nat.le_trans HWZ.out (HOW.out.lt q hq).1))
            have HCN := Lib.hid hcm; clear hcm hg2 HOW HZ HWZ
            (refine wpAnyH_take (i := 11) (oi := ?_) (v := ?_) ?_ (by kernel_rfl) (by kernel_rfl) (by kernel_rfl) ?_ (Or.inl ⟨?_, ?_⟩) (by assumption) ?_; rotate_left 2; (· (simp only [List.getElem?_toArray, List.getElem?_cons_succ, List.getElem?_cons_zero]; first | done | rfl)); (· exact (fun _ _ _ h => h)); (· rfl); (· (intro w hSw; (try dsimp only at hSw); go_simp; (try with_reducible rfl))))
            (try simp only [Act.put, List.setIfInBounds_toArray, List.set_cons_zero, List.set_cons_succ])
            refine wpAnyH_ready (rs := [13]) (by kernel_rfl) (by simp) ?_
            refine AllReadyH.cons (o := ?_) ?_ (fun K hK => ?_) AllReadyH.nil
            rotate_left 1
            · (simp only [List.getElem?_toArray, List.getElem?_cons_succ, List.getElem?_cons_zero]; first | done | rfl)
            obtain ⟨k0, k1, k2, k3⟩ := Nph.out.cells
            have k4 := Nph.out.lt
            go_simp
            refine hK.out _ _ ?_ (fun hq5 => ?_)
            · exact HSALL.out _ (below_put HBB.out leph _ _ _ _)
            clear hK K
            (try simp only [Act.put, List.setIfInBounds_toArray, List.set_cons_zero, List.set_cons_succ])
            clear hq4
            clear k0 k1 k2 k3 k4
            generalize hD : World.setCell (World.setCell D7 _ _) _ _ = D8 at hq5 ⊢
            have hp : D8 = putF D7 ph sf m1 (l.length + 1) mc1 := hD.symm
            clear hD
            have HCN2 := Lib.hid (conds_put Nph.out HCN.out sf m1 (l.length + 1) mc1); rw [← hp] at HCN2; clear HCN; have HCN := HCN2; clear HCN2
            have Bph := Lib.hid (newbox_put Nph.out sf m1 (l.length + 1) mc1); rw [← hp] at Bph
            have HB2 := Lib.hid (below_put HBB.out leph sf m1 (l.length + 1) mc1); rw [← hp] at HB2; clear HBB; have HBB := HB2; clear HB2
            clear Nph hp
            refine wpAnyH_done (by kernel_rfl) ?_ _
            go_wp2_with fail
            go_meet
            exact ⟨ph, m1, mc1, rfl, Bph, HCN, HBB⟩
        · skip
          go_simp
          refine hK.out _ _ ?_ (fun hq2 => ?_)
          · exact HSALL.out _ (btrans HBB.out (balloc _ _))
          clear hK K
          (try simp only [Act.put, List.setIfInBounds_toArray, List.set_cons_zero, List.set_cons_succ])
          clear hq1
          generalize hD : World.alloc D1 _ = D9 at hq2 ⊢
          have hb : Below D1.heap.size D1 D9 := by rw [← hD]; exact balloc _ _
          have Nph : Hid (NewBox D9 D1.heap.size) := Lib.hid (by rw [← hD]; exact newbox_alloc D1)
          have leph : wc.heap.size ≤ D1.heap.size := HBB.out.size
          have RNph := Lib.hid (fun (k : Nat) (h : v1.ownBlock = some k) => Nat.ne_of_lt (HOW.out.lt k h).2)
          clear hD
          replace HOW := Lib.hid (own_low7 HOW.out hb)
          replace HBB := Lib.hid (btrans HBB.out hb)
          replace HZ := Lib.hid (Nat.le_trans HZ.out (Below.size hb))
          clear hb
          generalize D1.heap.size = ph at *
          refine wpAnyH_ready (rs := [9]) (by kernel_rfl) (by simp) ?_
          refine AllReadyH.cons (o := ?_) ?_ (fun K hK => ?_) AllReadyH.nil
          rotate_left 1
          · (simp only [List.getElem?_toArray, List.getElem?_cons_succ, List.getElem?_cons_zero]; first | done | rfl)
          go_simp
          refine hK.out _ _ ?_ (fun hq3 => ?_)
          · exact HSALL.out _ (btrans HBB.out (balloc _ _))
          clear hK K
          (try simp only [Act.put, List.setIfInBounds_toArray, List.set_cons_zero, List.set_cons_succ])
          clear hq2
          generalize hD : World.alloc D9 _ = D10 at hq3 ⊢
          have hb : Below D9.heap.size D9 D10 := by rw [← hD]; exact balloc _ _
          have HV : Hid (∀ j u, (flatC [c0])[j]? = some u → D10.cell? ((⟨D9.heap.size, 0, none⟩ : Addr).add j) = some u) := Lib.hid (by rw [← hD]; exact new_cond D9 _ rfl c0 _)
          clear hD
          replace HOW := Lib.hid (own_low7 HOW.out hb)
          replace Nph := Lib.hid (Nph.out.low hb)
          replace HBB := Lib.hid (btrans HBB.out hb)
          replace HZ := Lib.hid (Nat.le_trans HZ.out (Below.size hb))
          clear hb
          generalize D9.heap.size = pv at *
          refine wpAnyH_ready (rs := [10]) (by kernel_rfl) (by simp) ?_
          refine AllReadyH.cons (o := ?_) ?_ (fun K hK => ?_) AllReadyH.nil
          rotate_left 1
          · (simp only [List.getElem?_toArray, List.getElem?_cons_succ, List.getElem?_cons_zero]; first | done | rfl)
          refine wp_append_own _ _ _ 22 rfl _ 31 i0 _ 7 72 Tryz.underlying22 hi hz0 hz1 hz2 rfl (by decide) v1 (0 + l.length) ([] ++ flatC M) rfl HOW.out ⟨pv, 0, none⟩ 1 1 (flatC [c0]) rfl rfl HV.out (flatC_one _) (by unfold maxLen; omega) (by omega) HZ.out ?_
          intro v2 D11 how2 hg2 hni; clear hni
          have how3 := how2; rw [List.nil_append, ← flatC_app, ← hl'] at how3; obtain ⟨m1, mc1, rfl, hcm, hap⟩ := own_apart how3; clear how2 how3 hap
          refine hK.out _ _ ?_ (fun hq4 => ?_)
          · exact HSALL.out _ (Below.grown HBB.out hg2 HBB.out.size (fun q hq => Nat.le_trans HWZ.out (HOW.out.lt q hq).1))
          clear hK K
          (try simp only [Act.put, List.setIfInBounds_toArray, List.set_cons_zero, List.set_cons_succ])
          clear hq3
          replace Nph := Lib.hid (Nph.out.grown hg2 (fun h => RNph.out _ h.symm rfl))
          replace HBB := Lib.hid (Below.grown HBB.out hg2 HBB.out.size (fun q hq => Nat.le_trans HWZ.out (HOW.out.lt q hq).1))
          have HCN := Lib.hid hcm; clear hcm hg2 HOW HZ HWZ
          (refine wpAnyH_take (i := 11) (oi := ?_) (v := ?_) ?_ (by kernel_rfl) (by kernel_rfl) (by kernel_rfl) ?_ (Or.inl ⟨?_, ?_⟩) (by assumption) ?_; rotate_left 2; (· (simp only [List.getElem?_toArray, List.getElem?_cons_succ, List.getElem?_cons_zero]; first | done | rfl)); (· exact (fun _ _ _ h => h)); (· rfl); (· (intro w hSw; (try dsimp only at hSw); go_simp; (try with_reducible rfl))))
          (try simp only [Act.put, List.setIfInBounds_toArray, List.set_cons_zero, List.set_cons_succ])
          refine wpAnyH_ready (rs := [13]) (by kernel_rfl) (by simp) ?_
          refine AllReadyH.cons (o := ?_) ?_ (fun K hK => ?_) AllReadyH.nil
          rotate_left 1
          · (simp only [List.getElem?_toArray, List.getElem?_cons_succ, List.getElem?_cons_zero]; first | done | rfl)
          obtain ⟨k0, k1, k2, k3⟩ := Nph.out.cells
          have k4 := Nph.out.lt
          go_simp
          refine hK.out _ _ ?_ (fun hq5 => ?_)
          · exact HSALL.out _ (below_put HBB.out leph _ _ _ _)
          clear hK K
          (try simp only [Act.put, List.setIfInBounds_toArray, List.set_cons_zero, List.set_cons_succ])
          clear hq4
          clear k0 k1 k2 k3 k4
          generalize hD : World.setCell (World.setCell D11 _ _) _ _ = D12 at hq5 ⊢
          have hp : D12 = putF D11 ph sf m1 (l.length + 1) mc1 := hD.symm
          clear hD
          have HCN2 := Lib.hid (conds_put Nph.out HCN.out sf m1 (l.length + 1) mc1); rw [← hp] at HCN2; clear HCN; have HCN := HCN2; clear HCN2
          have Bph := Lib.hid (newbox_put Nph.out sf m1 (l.length + 1) mc1); rw [← hp] at Bph
          have HB2 := Lib.hid (below_put HBB.out leph sf m1 (l.length + 1) mc1); rw [← hp] at HB2; clear HBB; have HBB := HB2; clear HB2
          clear Nph hp
          refine wpAnyH_done (by kernel_rfl) ?_ _
          go_wp2_with fail
          go_meet
          exact ⟨ph, m1, mc1, rfl, Bph, HCN, HBB⟩
      · skip
        go_simp
        refine hK.out _ _ ?_ (fun hq1 => ?_)
        · exact HSALL.out _ (btrans HBB.out (balloc _ _))
        clear hK K
        (try simp only [Act.put, List.setIfInBounds_toArray, List.set_cons_zero, List.set_cons_succ])
        clear hq0
        generalize hD : World.alloc D0 _ = D13 at hq1 ⊢
        have hb : Below D0.heap.size D0 D13 := by rw [← hD]; exact balloc _ _
        have HV : Hid (∀ j u, (flatC [c0])[j]? = some u → D13.cell? ((⟨D0.heap.size, 0, none⟩ : Addr).add j) = some u) := Lib.hid (by rw [← hD]; exact new_cond D0 _ rfl c0 _)
        clear hD
        replace HBB := Lib.hid (btrans HBB.out hb)
        clear hb
        generalize D0.heap.size = pv at *
        refine wpAnyH_ready (rs := [4, 12]) (by kernel_rfl) (by simp) ?_
        refine AllReadyH.cons (o := ?_) ?_ (fun K hK => ?_) ?_
        rotate_left 1
        · (simp only [List.getElem?_toArray, List.getElem?_cons_succ, List.getElem?_cons_zero]; first | done | rfl)
        rotate_left 1
        refine AllReadyH.cons (o := ?_) ?_ (fun K hK => ?_) AllReadyH.nil
        rotate_left 1
        · (simp only [List.getElem?_toArray, List.getElem?_cons_succ, List.getElem?_cons_zero]; first | done | rfl)
        rotate_left 1
        · skip
          refine wp_append_own _ _ _ 22 rfl _ 31 i0 _ 7 72 Tryz.underlying22 hi hz0 hz1 hz2 rfl (by decide) (.slice none 0 0) 0 [] rfl (World.ownsRow_nil _ _ _ _) b l.length mc (flatC M) rfl hfm (conds_all (HCM.out.below HBB.out)) (flatC_one _) (by unfold maxLen; omega) (by omega) (Nat.le_refl _) ?_
          intro v1 D14 how1 hg1 hni; clear hni
          refine hK.out _ _ ?_ (fun hq2 => ?_)
          · exact HSALL.out _ (Below.grown HBB.out hg1 HBB.out.size (fun q hq => by cases hq))
          clear hK K
          (try simp only [Act.put, List.setIfInBounds_toArray, List.set_cons_zero, List.set_cons_succ])
          clear hq1
          have hb : Below D13.heap.size D13 D14 := Below.grown (Below.refl _ _) hg1 (Nat.le_refl _) (fun q hq => by cases hq)
          have HWZ := Lib.hid HBB.out.size
          replace HV := Lib.hid (news_below HV.out hb)
          replace HBB := Lib.hid (btrans HBB.out hb)
          have HOW := Lib.hid how1
          have HZ := Lib.hid hb.size
          clear how1 hg1 hb
          refine wpAnyH_ready (rs := [10, 12]) (by kernel_rfl) (by simp) ?_
          refine AllReadyH.cons (o := ?_) ?_ (fun K hK => ?_) ?_
          rotate_left 1
          · (simp only [List.getElem?_toArray, List.getElem?_cons_succ, List.getElem?_cons_zero]; first | done | rfl)
          rotate_left 1
          refine AllReadyH.cons (o := ?_) ?_ (fun K hK => ?_) AllReadyH.nil
          rotate_left 1
          · (simp only [List.getElem?_toArray, List.getElem?_cons_succ, List.getElem?_cons_zero]; first | done | rfl)
          rotate_left 1
          · skip
            refine wp_append_own _ _ _ 22 rfl _ 31 i0 _ 7 72 Tryz.underlying22 hi hz0 hz1 hz2 rfl (by decide) v1 (0 + l.length) ([] ++ flatC M) rfl HOW.out ⟨pv, 0, none⟩ 1 1 (flatC [c0]) rfl rfl HV.out (flatC_one _) (by unfold maxLen; omega) (by omega) HZ.out ?_
            intro v2 D15 how2 hg2 hni; clear hni
            have how3 := how2; rw [List.nil_append, ← flatC_app, ← hl'] at how3; obtain ⟨m1, mc1, rfl, hcm, hap⟩ := own_apart how3; clear how2 how3 hap
            refine hK.out _ _ ?_ (fun hq3 => ?_)
            · exact HSALL.out _ (Below.grown HBB.out hg2 HBB.out.size (fun q hq => Nat.le_trans HWZ.out (HOW.out.lt q hq).1))
            clear hK K
            (try simp only [Act.put, List.setIfInBounds_toArray, List.set_cons_zero, List.set_cons_succ])
            clear hq2
            replace HBB := Lib.hid (Below.grown HBB.out hg2 HBB.out.size (fun q hq => Nat.le_trans HWZ.out (HOW.out.lt q hq).1))
            have HCN := Lib.hid hcm; clear hcm hg2 HOW HZ HWZ
            (refine wpAnyH_take (i := 11) (oi := ?_) (v := ?_) ?_ (by kernel_rfl) (by kernel_rfl) (by kernel_rfl) ?_ (Or.inl ⟨?_, ?_⟩) (by assumption) ?_; rotate_left 2; (· (simp only [List.getElem?_toArray, List.getElem?_cons_succ, List.getElem?_cons_zero]; first | done | rfl)); (· exact (fun _ _ _ h => h)); (· rfl); (· (intro w hSw; (try dsimp only at hSw); go_simp; (try with_reducible rfl))))
            (try simp only [Act.put, List.setIfInBounds_toArray, List.set_cons_zero, List.set_cons_succ])
            refine wpAnyH_ready (rs := [12]) (by kernel_rfl) (by simp) ?_
            refine AllReadyH.cons (o := ?_) ?_ (fun K hK => ?_) AllReadyH.nil
            rotate_left 1
            · (simp only [List.getElem?_toArray, List.getElem?_cons_succ, List.getElem?_cons_zero]; first | done | rfl)
            go_simp
            refine hK.out _ _ ?_ (fun hq4 => ?_)
            · exact HSALL.out _ (btrans HBB.out (balloc _ _))
            clear hK K
            (try simp only [Act.put, List.setIfInBounds_toArray, List.set_cons_zero, List.set_cons_succ])
            clear hq3
            generalize hD : World.alloc D15 _ = D16 at hq4 ⊢
            have hb : Below D15.heap.size D15 D16 := by rw [← hD]; exact balloc _ _
            have Nph : Hid (NewBox D16 D15.heap.size) := Lib.hid (by rw [← hD]; exact newbox_alloc D15)
            have leph : wc.heap.size ≤ D15.heap.size := HBB.out.size
            clear hD
            replace HCN := Lib.hid (HCN.out.below hb)
            replace HBB := Lib.hid (btrans HBB.out hb)
            clear hb
            generalize D15.heap.size = ph at *
            refine wpAnyH_ready (rs := [13]) (by kernel_rfl) (by simp) ?_
            refine AllReadyH.cons (o := ?_) ?_ (fun K hK => ?_) AllReadyH.nil
            rotate_left 1
            · (simp only [List.getElem?_toArray, List.getElem?_cons_succ, List.getElem?_cons_zero]; first | done | rfl)
            obtain ⟨k0, k1, k2, k3⟩ := Nph.out.cells
            have k4 := Nph.out.lt
            go_simp
            refine hK.out _ _ ?_ (fun hq5 => ?_)
            · exact HSALL.out _ (below_put HBB.out leph _ _ _ _)
            clear hK K
            (try simp only [Act.put, List.setIfInBounds_toArray, List.set_cons_zero, List.set_cons_succ])
            clear hq4
            clear k0 k1 k2 k3 k4
            generalize hD : World.setCell (World.setCell D16 _ _) _ _ = D17 at hq5 ⊢
            have hp : D17 = putF D16 ph sf m1 (l.length + 1) mc1 := hD.symm
            clear hD
            have HCN2 := Lib.hid (conds_put Nph.out HCN.out sf m1 (l.length + 1) mc1); rw [← hp] at HCN2; clear HCN; have HCN := HCN2; clear HCN2
            have Bph := Lib.hid (newbox_put Nph.out sf m1 (l.length + 1) mc1); rw [← hp] at Bph
            have HB2 := Lib.hid (below_put HBB.out leph sf m1 (l.length + 1) mc1); rw [← hp] at HB2; clear HBB; have HBB := HB2; clear HB2
            clear Nph hp
            refine wpAnyH_done (by kernel_rfl) ?_ _
            go_wp2_with fail
            go_meet
            exact ⟨ph, m1, mc1, rfl, Bph, HCN, HBB⟩
          · skip
            go_simp
            refine hK.out _ _ ?_ (fun hq3 => ?_)
            · exact HSALL.out _ (btrans HBB.out (balloc _ _))
            clear hK K
            (try simp only [Act.put, List.setIfInBounds_toArray, List.set_cons_zero, List.set_cons_succ])
            clear hq2
            generalize hD : World.alloc D14 _ = D18 at hq3 ⊢
            have hb : Below D14.heap.size D14 D18 := by rw [← hD]; exact balloc _ _
            have Nph : Hid (NewBox D18 D14.heap.size) := Lib.hid (by rw [← hD]; exact newbox_alloc D14)
            have leph : wc.heap.size ≤ D14.heap.size := HBB.out.size
            have RNph := Lib.hid (fun (k : Nat) (h : v1.ownBlock = some k) => Nat.ne_of_lt (HOW.out.lt k h).2)
            clear hD
            replace HV := Lib.hid (news_below HV.out hb)
            replace HOW := Lib.hid (own_low7 HOW.out hb)
            replace HBB := Lib.hid (btrans HBB.out hb)
            replace HZ := Lib.hid (Nat.le_trans HZ.out (Below.size hb))
            clear hb
            generalize D14.heap.size = ph at *
            refine wpAnyH_ready (rs := [10]) (by kernel_rfl) (by simp) ?_
            refine AllReadyH.cons (o := ?_) ?_ (fun K hK => ?_) AllReadyH.nil
            rotate_left 1
            · (simp only [List.getElem?_toArray, List.getElem?_cons_succ, List.getElem?_cons_zero]; first | done | rfl)
            refine wp_append_own _ _ _ 22 rfl _ 31 i0 _ 7 72 Tryz.underlying22 hi hz0 hz1 hz2 rfl (by decide) v1 (0 + l.length) ([] ++ flatC M) rfl HOW.out ⟨pv, 0, none⟩ 1 1 (flatC [c0]) rfl rfl HV.out (flatC_one _) (by unfold maxLen; omega) (by omega) HZ.out ?_
            intro v2 D19 how2 hg2 hni; clear hni
            have how3 := how2; rw [List.nil_append, ← flatC_app, ← hl'] at how3; obtain ⟨m1, mc1, rfl, hcm, hap⟩ := own_apart how3; clear how2 how3 hap
            refine hK.out _ _ ?_ (fun hq4 => ?_)
            · exact HSALL.out _ (Below.grown HBB.out hg2 HBB.out.size (fun q hq => Nat.le_trans HWZ.out (HOW.out.lt q hq).1))
            clear hK K
            (try simp only [Act.put, List.setIfInBounds_toArray, List.set_cons_zero, List.set_cons_succ])
            clear hq3
            replace Nph := Lib.hid (Nph.out.grown hg2 (fun h => RNph.out _ h.symm rfl))
            replace HBB := Lib.hid (Below.grown HBB.out hg2 HBB.out.size (fun q hq => Nat.le_trans HWZ.out (HOW.out.lt q hq).1))
            have HCN := Lib.hid hcm; clear hcm hg2 HOW HZ HWZ
            (refine wpAnyH_take (i := 11) (oi := ?_) (v := ?_) ?_ (by kernel_rfl) (by kernel_rfl) (by kernel_rfl) ?_ (Or.inl ⟨?_, ?_⟩) (by assumption) ?_; rotate_left 2; (· (simp only [List.getElem?_toArray, List.getElem?_cons_succ, List.getElem?_cons_zero]; first | done | rfl)); (· exact (fun _ _ _ h => h)); (· rfl); (· (intro w hSw; (try dsimp only at hSw); go_simp; (try with_reducible rfl))))
            (try simp only [Act.put, List.setIfInBounds_toArray, List.set_cons_zero, List.set_cons_succ])
            refine wpAnyH_ready (rs := [13]) (by kernel_rfl) (by simp) ?_
            refine AllReadyH.cons (o := ?_) ?_ (fun K hK => ?_) AllReadyH.nil
            rotate_left 1
            · (simp only [List.getElem?_toArray, List.getElem?_cons_succ, List.getElem?_cons_zero]; first | done | rfl)
            obtain ⟨k0, k1, k2, k3⟩ := Nph.out.cells
            have k4 := Nph.out.lt
            go_simp
            refine hK.out _ _ ?_ (fun hq5 => ?_)
            · exact HSALL.out _ (below_put HBB.out leph _ _ _ _)
            clear hK K
            (try simp only [Act.put, List.setIfInBounds_toArray, List.set_cons_zero, List.set_cons_succ])
            clear hq4
            clear k0 k1 k2 k3 k4
            generalize hD : World.setCell (World.setCell D19 _ _) _ _ = D20 at hq5 ⊢
            have hp : D20 = putF D19 ph sf m1 (l.length + 1) mc1 := hD.symm
            clear hD
            have HCN2 := Lib.hid (conds_put Nph.out HCN.out sf m1 (l.length + 1) mc1); rw [← hp] at HCN2; clear HCN; have HCN := HCN2; clear HCN2
            have Bph := Lib.hid (newbox_put Nph.out sf m1 (l.length + 1) mc1); rw [← hp] at Bph
            have HB2 := Lib.hid (below_put HBB.out leph sf m1 (l.length + 1) mc1); rw [← hp] at HB2; clear HBB; have HBB := HB2; clear HB2
            clear Nph hp
            refine wpAnyH_done (by kernel_rfl) ?_ _
            go_wp2_with fail
            go_meet
            exact ⟨ph, m1, mc1, rfl, Bph, HCN, HBB⟩
        · skip
          go_simp
          refine hK.out _ _ ?_ (fun hq2 => ?_)
          · exact HSALL.out _ (btrans HBB.out (balloc _ _))
          clear hK K
          (try simp only [Act.put, List.setIfInBounds_toArray, List.set_cons_zero, List.set_cons_succ])
          clear hq1
          generalize hD : World.alloc D13 _ = D21 at hq2 ⊢
          have hb : Below D13.heap.size D13 D21 := by rw [← hD]; exact balloc _ _
          have Nph : Hid (NewBox D21 D13.heap.size) := Lib.hid (by rw [← hD]; exact newbox_alloc D13)
          have leph : wc.heap.size ≤ D13.heap.size := HBB.out.size
          clear hD
          replace HV := Lib.hid (news_below HV.out hb)
          replace HBB := Lib.hid (btrans HBB.out hb)
          clear hb
          generalize D13.heap.size = ph at *
          refine wpAnyH_ready (rs := [4]) (by kernel_rfl) (by simp) ?_
          refine AllReadyH.cons (o := ?_) ?_ (fun K hK => ?_) AllReadyH.nil
          rotate_left 1
          · (simp only [List.getElem?_toArray, List.getElem?_cons_succ, List.getElem?_cons_zero]; first | done | rfl)
          have ltph := Nph.out.lt
          refine wp_append_own _ _ _ 22 rfl _ 31 i0 _ 7 72 Tryz.underlying22 hi hz0 hz1 hz2 rfl (by decide) (.slice none 0 0) 0 [] rfl (World.ownsRow_nil _ _ _ _) b l.length mc (flatC M) rfl hfm (conds_all (HCM.out.below HBB.out)) (flatC_one _) (by unfold maxLen; omega) (by omega) (Nat.le_refl _) ?_
          intro v1 D22 how1 hg1 hni; clear hni
          refine hK.out _ _ ?_ (fun hq3 => ?_)
          · exact HSALL.out _ (Below.grown HBB.out hg1 HBB.out.size (fun q hq => by cases hq))
          clear hK K
          (try simp only [Act.put, List.setIfInBounds_toArray, List.set_cons_zero, List.set_cons_succ])
          clear hq2
          have hb : Below D21.heap.size D21 D22 := Below.grown (Below.refl _ _) hg1 (Nat.le_refl _) (fun q hq => by cases hq)
          have HWZ := Lib.hid HBB.out.size
          replace HV := Lib.hid (news_below HV.out hb)
          replace Nph := Lib.hid (Nph.out.low hb)
          replace HBB := Lib.hid (btrans HBB.out hb)
          have HOW := Lib.hid how1
          have HZ := Lib.hid hb.size
          have RNph := Lib.hid (fun (k : Nat) (h : v1.ownBlock = some k) => Nat.ne_of_gt (Nat.lt_of_lt_of_le ltph (HOW.out.lt k h).1)); clear ltph
          clear how1 hg1 hb
          refine wpAnyH_ready (rs := [10]) (by kernel_rfl) (by simp) ?_
          refine AllReadyH.cons (o := ?_) ?_ (fun K hK => ?_) AllReadyH.nil
          rotate_left 1
          · (simp only [List.getElem?_toArray, List.getElem?_cons_succ, List.getElem?_cons_zero]; first | done | rfl)
          refine wp_append_own _ _ _ 22 rfl _ 31 i0 _ 7 72 Tryz.underlying22 hi hz0 hz1 hz2 rfl (by decide) v1 (0 + l.length) ([] ++ flatC M) rfl HOW.out ⟨pv, 0, none⟩ 1 1 (flatC [c0]) rfl rfl HV.out (flatC_one _) (by unfold maxLen; omega) (by omega) HZ.out ?_
          intro v2 D23 how2 hg2 hni; clear hni
          have how3 := how2; rw [List.nil_append, ← flatC_app, ← hl'] at how3; obtain ⟨m1, mc1, rfl, hcm, hap⟩ := own_apart how3; clear how2 how3 hap
          refine hK.out _ _ ?_ (fun hq4 => ?_)
          · exact HSALL.out _ (Below.grown HBB.out hg2 HBB.out.size (fun q hq => Nat.le_trans HWZ.out (HOW.out.lt q hq).1))
          clear hK K
          (try simp only [Act.put, List.setIfInBounds_toArray, List.set_cons_zero, List.set_cons_succ])
          clear hq3
          replace Nph := Lib.hid (Nph.out.grown hg2 (fun h => RNph.out _ h.symm rfl))
          replace HBB := Lib.hid (Below.grown HBB.out hg2 HBB.out.size (fun q hq => Nat.le_trans HWZ.out (HOW.out.lt q hq).1))
          have HCN := Lib.hid hcm; clear hcm hg2 HOW HZ HWZ
          (refine wpAnyH_take (i := 11) (oi := ?_) (v := ?_) ?_ (by kernel_rfl) (by kernel_rfl) (by kernel_rfl) ?_ (Or.inl ⟨?_, ?_⟩) (by assumption) ?_; rotate_left 2; (· (simp only [List.getElem?_toArray, List.getElem?_cons_succ, List.getElem?_cons_zero]; first | done | rfl)); (· exact (fun _ _ _ h => h)); (· rfl); (· (intro w hSw; (try dsimp only at hSw); go_simp; (try with_reducible rfl))))
          (try simp only [Act.put, List.setIfInBounds_toArray, List.set_cons_zero, List.set_cons_succ])
          refine wpAnyH_ready (rs := [13]) (by kernel_rfl) (by simp) ?_
          refine AllReadyH.cons (o := ?_) ?_ (fun K hK => ?_) AllReadyH.nil
          rotate_left 1
          · (simp only [List.getElem?_toArray, List.getElem?_cons_succ, List.getElem?_cons_zero]; first | done | rfl)
          obtain ⟨k0, k1, k2, k3⟩ := Nph.out.cells
          have k4 := Nph.out.lt
          go_simp
          refine hK.out _ _ ?_ (fun hq5 => ?_)
          · exact HSALL.out _ (below_put HBB.out leph _ _ _ _)
          clear hK K
          (try simp only [Act.put, List.setIfInBounds_toArray, List.set_cons_zero, List.set_cons_succ])
          clear hq4
          clear k0 k1 k2 k3 k4
          generalize hD : World.setCell (World.setCell D23 _ _) _ _ = D24 at hq5 ⊢
          have hp : D24 = putF D23 ph sf m1 (l.length + 1) mc1 := hD.symm
          clear hD
          have HCN2 := Lib.hid (conds_put Nph.out HCN.out sf m1 (l.length + 1) mc1); rw [← hp] at HCN2; clear HCN; have HCN := HCN2; clear HCN2
          have Bph := Lib.hid (newbox_put Nph.out sf m1 (l.length + 1) mc1); rw [← hp] at Bph
          have HB2 := Lib.hid (below_put HBB.out leph sf m1 (l.length + 1) mc1); rw [← hp] at HB2; clear HBB; have HBB := HB2; clear HB2
          clear Nph hp
          refine wpAnyH_done (by kernel_rfl) ?_ _
          go_wp2_with fail
          go_meet
          exact ⟨ph, m1, mc1, rfl, Bph, HCN, HBB⟩
      · skip
        go_simp
        refine hK.out _ _ ?_ (fun hq1 => ?_)
        · exact HSALL.out _ (btrans HBB.out (balloc _ _))
        clear hK K
        (try simp only [Act.put, List.setIfInBounds_toArray, List.set_cons_zero, List.set_cons_succ])
        clear hq0
        generalize hD : World.alloc D0 _ = D25 at hq1 ⊢
        have hb : Below D0.heap.size D0 D25 := by rw [← hD]; exact balloc _ _
        have Nph : Hid (NewBox D25 D0.heap.size) := Lib.hid (by rw [← hD]; exact newbox_alloc D0)
        have leph : wc.heap.size ≤ D0.heap.size := HBB.out.size
        clear hD
        replace HBB := Lib.hid (btrans HBB.out hb)
        clear hb
        generalize D0.heap.size = ph at *
        refine wpAnyH_ready (rs := [4, 9]) (by kernel_rfl) (by simp) ?_
        refine AllReadyH.cons (o := ?_) ?_ (fun K hK => ?_) ?_
        rotate_left 1
        · (simp only [List.getElem?_toArray, List.getElem?_cons_succ, List.getElem?_cons_zero]; first | done | rfl)
        rotate_left 1
        refine AllReadyH.cons (o := ?_) ?_ (fun K hK => ?_) AllReadyH.nil
        rotate_left 1
        · (simp only [List.getElem?_toArray, List.getElem?_cons_succ, List.getElem?_cons_zero]; first | done | rfl)
        rotate_left 1
        · skip
          have ltph := Nph.out.lt
          refine wp_append_own _ _ _ 22 rfl _ 31 i0 _ 7 72 Tryz.underlying22 hi hz0 hz1 hz2 rfl (by decide) (.slice none 0 0) 0 [] rfl (World.ownsRow_nil _ _ _ _) b l.length mc (flatC M) rfl hfm (conds_all (HCM.out.below HBB.out)) (flatC_one _) (by unfold maxLen; omega) (by omega) (Nat.le_refl _) ?_
          intro v1 D26 how1 hg1 hni; clear hni
          refine hK.out _ _ ?_ (fun hq2 => ?_)
          · exact HSALL.out _ (Below.grown HBB.out hg1 HBB.out.size (fun q hq => by cases hq))
          clear hK K
          (try simp only [Act.put, List.setIfInBounds_toArray, List.set_cons_zero, List.set_cons_succ])
          clear hq1
          have hb : Below D25.heap.size D25 D26 := Below.grown (Below.refl _ _) hg1 (Nat.le_refl _) (fun q hq => by cases hq)
          have HWZ := Lib.hid HBB.out.size
          replace Nph := Lib.hid (Nph.out.low hb)
          replace HBB := Lib.hid (btrans HBB.out hb)
          have HOW := Lib.hid how1
          have HZ := Lib.hid hb.size
          have RNph := Lib.hid (fun (k : Nat) (h : v1.ownBlock = some k) => Nat.ne_of_gt (Nat.lt_of_lt_of_le ltph (HOW.out.lt k h).1)); clear ltph
          clear how1 hg1 hb
          refine wpAnyH_ready (rs := [9]) (by kernel_rfl) (by simp) ?_
          refine AllReadyH.cons (o := ?_) ?_ (fun K hK => ?_) AllReadyH.nil
          rotate_left 1
          · (simp only [List.getElem?_toArray, List.getElem?_cons_succ, List.getElem?_cons_zero]; first | done | rfl)
          go_simp
          refine hK.out _ _ ?_ (fun hq3 => ?_)
          · exact HSALL.out _ (btrans HBB.out (balloc _ _))
          clear hK K
          (try simp only [Act.put, List.setIfInBounds_toArray, List.set_cons_zero, List.set_cons_succ])
          clear hq2
          generalize hD : World.alloc D26 _ = D27 at hq3 ⊢
          have hb : Below D26.heap.size D26 D27 := by rw [← hD]; exact balloc _ _
          have HV : Hid (∀ j u, (flatC [c0])[j]? = some u → D27.cell? ((⟨D26.heap.size, 0, none⟩ : Addr).add j) = some u) := Lib.hid (by rw [← hD]; exact new_cond D26 _ rfl c0 _)
          clear hD
          replace Nph := Lib.hid (Nph.out.low hb)
          replace HOW := Lib.hid (own_low7 HOW.out hb)
          replace HBB := Lib.hid (btrans HBB.out hb)
          replace HZ := Lib.hid (Nat.le_trans HZ.out (Below.size hb))
          clear hb
          generalize D26.heap.size = pv at *
          refine wpAnyH_ready (rs := [10]) (by kernel_rfl) (by simp) ?_
          refine AllReadyH.cons (o := ?_) ?_ (fun K hK => ?_) AllReadyH.nil
          rotate_left 1
          · (simp only [List.getElem?_toArray, List.getElem?_cons_succ, List.getElem?_cons_zero]; first | done | rfl)
          refine wp_append_own _ _ _ 22 rfl _ 31 i0 _ 7 72 Tryz.underlying22 hi hz0 hz1 hz2 rfl (by decide) v1 (0 + l.length) ([] ++ flatC M) rfl HOW.out ⟨pv, 0, none⟩ 1 1 (flatC [c0]) rfl rfl HV.out (flatC_one _) (by unfold maxLen; omega) (by omega) HZ.out ?_
          intro v2 D28 how2 hg2 hni; clear hni
          have how3 := how2; rw [List.nil_append, ← flatC_app, ← hl'] at how3; obtain ⟨m1, mc1, rfl, hcm, hap⟩ := own_apart how3; clear how2 how3 hap
          refine hK.out _ _ ?_ (fun hq4 => ?_)
          · exact HSALL.out _ (Below.grown HBB.out hg2 HBB.out.size (fun q hq => Nat.le_trans HWZ.out (HOW.out.lt q hq).1))
          clear hK K
          (try simp only [Act.put, List.setIfInBounds_toArray, List.set_cons_zero, List.set_cons_succ])
          clear hq3
          replace Nph := Lib.hid (Nph.out.grown hg2 (fun h => RNph.out _ h.symm rfl))
          replace HBB := Lib.hid (Below.grown HBB.out hg2 HBB.out.size (fun q hq => Nat.le_trans HWZ.out (HOW.out.lt q hq).1))
          have HCN := Lib.hid hcm; clear hcm hg2 HOW HZ HWZ
          (refine wpAnyH_take (i := 11) (oi := ?_) (v := ?_) ?_ (by kernel_rfl) (by kernel_rfl) (by kernel_rfl) ?_ (Or.inl ⟨?_, ?_⟩) (by assumption) ?_; rotate_left 2; (· (simp only [List.getElem?_toArray, List.getElem?_cons_succ, List.getElem?_cons_zero]; first | done | rfl)); (· exact (fun _ _ _ h => h)); (· rfl); (· (intro w hSw; (try dsimp only at hSw); go_simp; (try with_reducible rfl))))
          (try simp only [Act.put, List.setIfInBounds_toArray, List.set_cons_zero, List.set_cons_succ])
          refine wpAnyH_ready (rs := [13]) (by kernel_rfl) (by simp) ?_
          refine AllReadyH.cons (o := ?_) ?_ (fun K hK => ?_) AllReadyH.nil
          rotate_left 1
          · (simp only [List.getElem?_toArray, List.getElem?_cons_succ, List.getElem?_cons_zero]; first | done | rfl)
          obtain ⟨k0, k1, k2, k3⟩ := Nph.out.cells
          have k4 := Nph.out.lt
          go_simp
          refine hK.out _ _ ?_ (fun hq5 => ?_)
          · exact HSALL.out _ (below_put HBB.out leph _ _ _ _)
          clear hK K
          (try simp only [Act.put, List.setIfInBounds_toArray, List.set_cons_zero, List.set_cons_succ])
          clear hq4
          clear k0 k1 k2 k3 k4
          generalize hD : World.setCell (World.setCell D28 _ _) _ _ = D29 at hq5 ⊢
          have hp : D29 = putF D28 ph sf m1 (l.length + 1) mc1 := hD.symm
          clear hD
          have HCN2 := Lib.hid (conds_put Nph.out HCN.out sf m1 (l.length + 1) mc1); rw [← hp] at HCN2; clear HCN; have HCN := HCN2; clear HCN2
          have Bph := Lib.hid (newbox_put Nph.out sf m1 (l.length + 1) mc1); rw [← hp] at Bph
          have HB2 := Lib.hid (below_put HBB.out leph sf m1 (l.length + 1) mc1); rw [← hp] at HB2; clear HBB; have HBB := HB2; clear HB2
          clear Nph hp
          refine wpAnyH_done (by kernel_rfl) ?_ _
          go_wp2_with fail
          go_meet
          exact ⟨ph, m1, mc1, rfl, Bph, HCN, HBB⟩
        · skip
          go_simp
          refine hK.out _ _ ?_ (fun hq2 => ?_)
          · exact HSALL.out _ (btrans HBB.out (balloc _ _))
          clear hK K
          (try simp only [Act.put, List.setIfInBounds_toArray, List.set_cons_zero, List.set_cons_succ])
          clear hq1
          generalize hD : World.alloc D25 _ = D30 at hq2 ⊢
          have hb : Below D25.heap.size D25 D30 := by rw [← hD]; exact balloc _ _
          have HV : Hid (∀ j u, (flatC [c0])[j]? = some u → D30.cell? ((⟨D25.heap.size, 0, none⟩ : Addr).add j) = some u) := Lib.hid (by rw [← hD]; exact new_cond D25 _ rfl c0 _)
          clear hD
          replace Nph := Lib.hid (Nph.out.low hb)
          replace HBB := Lib.hid (btrans HBB.out hb)
          clear hb
          generalize D25.heap.size = pv at *
          refine wpAnyH_ready (rs := [4]) (by kernel_rfl) (by simp) ?_
          refine AllReadyH.cons (o := ?_) ?_ (fun K hK => ?_) AllReadyH.nil
          rotate_left 1
          · (simp only [List.getElem?_toArray, List.getElem?_cons_succ, List.getElem?_cons_zero]; first | done | rfl)
          have ltph := Nph.out.lt
          refine wp_append_own _ _ _ 22 rfl _ 31 i0 _ 7 72 Tryz.underlying22 hi hz0 hz1 hz2 rfl (by decide) (.slice none 0 0) 0 [] rfl (World.ownsRow_nil _ _ _ _) b l.length mc (flatC M) rfl hfm (conds_all (HCM.out.below HBB.out)) (flatC_one _) (by unfold maxLen; omega) (by omega) (Nat.le_refl _) ?_
          intro v1 D31 how1 hg1 hni; clear hni
          refine hK.out _ _ ?_ (fun hq3 => ?_)
          · exact HSALL.out _ (Below.grown HBB.out hg1 HBB.out.size (fun q hq => by cases hq))
          clear hK K
          (try simp only [Act.put, List.setIfInBounds_toArray, List.set_cons_zero, List.set_cons_succ])
          clear hq2
          have hb : Below D30.heap.size D30 D31 := Below.grown (Below.refl _ _) hg1 (Nat.le_refl _) (fun q hq => by cases hq)
          have HWZ := Lib.hid HBB.out.size
          replace Nph := Lib.hid (Nph.out.low hb)
          replace HV := Lib.hid (news_below HV.out hb)
          replace HBB := Lib.hid (btrans HBB.out hb)
          have HOW := Lib.hid how1
          have HZ := Lib.hid hb.size
          have RNph := Lib.hid (fun (k : Nat) (h : v1.ownBlock = some k) => Nat.ne_of_gt (Nat.lt_of_lt_of_le ltph (HOW.out.lt k h).1)); clear ltph
          clear how1 hg1 hb
          refine wpAnyH_ready (rs := [10]) (by kernel_rfl) (by simp) ?_
          refine AllReadyH.cons (o := ?_) ?_ (fun K hK => ?_) AllReadyH.nil
          rotate_left 1
          · (simp only [List.getElem?_toArray, List.getElem?_cons_succ, List.getElem?_cons_zero]; first | done | rfl)
          refine wp_append_own _ _ _ 22 rfl _ 31 i0 _ 7 72 Tryz.underlying22 hi hz0 hz1 hz2 rfl (by decide) v1 (0 + l.length) ([] ++ flatC M) rfl HOW.out ⟨pv, 0, none⟩ 1 1 (flatC [c0]) rfl rfl HV.out (flatC_one _) (by unfold maxLen; omega) (by omega) HZ.out ?_
          intro v2 D32 how2 hg2 hni; clear hni
          have how3 := how2; rw [List.nil_append, ← flatC_app, ← hl'] at how3; obtain ⟨m1, mc1, rfl, hcm, hap⟩ := own_apart how3; clear how2 how3 hap
          refine hK.out _ _ ?_ (fun hq4 => ?_)
          · exact HSALL.out _ (Below.grown HBB.out hg2 HBB.out.size (fun q hq => Nat.le_trans HWZ.out (HOW.out.lt q hq).1))
          clear hK K
          (try simp only [Act.put, List.setIfInBounds_toArray, List.set_cons_zero, List.set_cons_succ])
          clear hq3
          replace Nph := Lib.hid (Nph.out.grown hg2 (fun h => RNph.out _ h.symm rfl))
          replace HBB := Lib.hid (Below.grown HBB.out hg2 HBB.out.size (fun q hq => Nat.le_trans HWZ.out (HOW.out.lt q hq).1))
          have HCN := Lib.hid hcm; clear hcm hg2 HOW HZ HWZ
          (refine wpAnyH_take (i := 11) (oi := ?_) (v := ?_) ?_ (by kernel_rfl) (by kernel_rfl) (by kernel_rfl) ?_ (Or.inl ⟨?_, ?_⟩) (by assumption) ?_; rotate_left 2; (· (simp only [List.getElem?_toArray, List.getElem?_cons_succ, List.getElem?_cons_zero]; first | done | rfl)); (· exact (fun _ _ _ h => h)); (· rfl); (· (intro w hSw; (try dsimp only at hSw); go_simp; (try with_reducible rfl))))
          (try simp only [Act.put, List.setIfInBounds_toArray, List.set_cons_zero, List.set_cons_succ])
          refine wpAnyH_ready (rs := [13]) (by kernel_rfl) (by simp) ?_
          refine AllReadyH.cons (o := ?_) ?_ (fun K hK => ?_) AllReadyH.nil
          rotate_left 1
          · (simp only [List.getElem?_toArray, List.getElem?_cons_succ, List.getElem?_cons_zero]; first | done | rfl)
          obtain ⟨k0, k1, k2, k3⟩ := Nph.out.cells
          have k4 := Nph.out.lt
          go_simp
          refine hK.out _ _ ?_ (fun hq5 => ?_)
          · exact HSALL.out _ (below_put HBB.out leph _ _ _ _)
          clear hK K
          (try simp only [Act.put, List.setIfInBounds_toArray, List.set_cons_zero, List.set_cons_succ])
          clear hq4
          clear k0 k1 k2 k3 k4
          generalize hD : World.setCell (World.setCell D32 _ _) _ _ = D33 at hq5 ⊢
          have hp : D33 = putF D32 ph sf m1 (l.length + 1) mc1 := hD.symm
          clear hD
          have HCN2 := Lib.hid (conds_put Nph.out HCN.out sf m1 (l.length + 1) mc1); rw [← hp] at HCN2; clear HCN; have HCN := HCN2; clear HCN2
          have Bph := Lib.hid (newbox_put Nph.out sf m1 (l.length + 1) mc1); rw [← hp] at Bph
          have HB2 := Lib.hid (below_put HBB.out leph sf m1 (l.length + 1) mc1); rw [← hp] at HB2; clear HBB; have HBB := HB2; clear HB2
          clear Nph hp
          refine wpAnyH_done (by kernel_rfl) ?_ _
          go_wp2_with fail
          go_meet
          exact ⟨ph, m1, mc1, rfl, Bph, HCN, HBB⟩
    case rest => as_aux_lemma =>
      obtain ⟨ph, m1, mc1, rfl, BH, HCM1, HB7⟩ := hcut
      obtain ⟨x0, x1, y0, y1, _, _, _, _⟩ := s7_below HB7.out HS7.out
      obtain ⟨z0, z1⟩ := BH.out
      have hwc : Below w.heap.size w wc := btrans (btrans HBR.out HB6.out) HB7.out
      have cl := (HC.out.below HB6.out).below HB7.out
      have cm := HCM.out.below HB7.out
      have ch := HCM1.out
      have st : (fun w' => w'.cell? ⟨w.heap.size, 0, none⟩ = some (.string ⟨sf.toArray⟩) ∧ w'.cell? ⟨w.heap.size, 1, none⟩ = some (.slice (some a) l.length cap) ∧ w'.cell? ⟨pg, 0, none⟩ = some (.string ⟨sf.toArray⟩) ∧ w'.cell? ⟨pg, 1, none⟩ = some (.slice (some b) l.length mc) ∧ w'.cell? ⟨ph, 0, none⟩ = some (.string ⟨sf.toArray⟩) ∧ w'.cell? ⟨ph, 1, none⟩ = some (.slice m1 (l.length + 1) mc1) ∧ Below wc.heap.size wc w' ∧ (w.heap.size < w'.heap.size ∧ pg < w'.heap.size ∧ ph < w'.heap.size)) wc := ⟨x0, x1, y0, y1, z0, z1, Below.refl _ _, World.block_lt_of_cell? _ _ x0, World.block_lt_of_cell? _ _ y0, World.block_lt_of_cell? _ _ z0⟩
      have sm : ∀ c ∈ M, CSmall c ∧ 0 ≤ c.op ∧ c.op ≤ 7 := fun c h => HSC.out c (HMM.out c h)
      have sh : ∀ c ∈ M ++ [c0], CSmall c ∧ 0 ≤ c.op ∧ c.op ≤ 7 := fun c h => by
        rcases List.mem_append.1 h with h | h
        · exact sm c h
        · rw [List.mem_singleton] at h; rw [h]; exact HSC.out c0 HC0.out
      have hkf : ∀ W, Below wc.heap.size wc W → Calls Tryz.prog 18 #[ev sf (some a) l.length cap] W fun e w' => e = .returned (.string ⟨(keyT sf l).toArray⟩) ∧ Below W.heap.size W w' :=
        fun W hb => key_any sf (some a) cap l W (cl.below hb) (by omega) (HW.out.below (btrans hwc hb)) (HT.out.below (btrans hwc hb) (Nat.le_refl _)) HSC.out (by omega)
      have hkg : ∀ W, Below wc.heap.size wc W → Calls Tryz.prog 18 #[ev sf (some b) l.length mc] W fun e w' => e = .returned (.string ⟨(keyT sf l).toArray⟩) ∧ Below W.heap.size W w' := fun W hb => by
        have := key_any sf (some b) mc M W (cm.below hb) (by omega) (HW.out.below (btrans hwc hb)) (HT.out.below (btrans hwc hb) (Nat.le_refl _)) sm (by omega)
        rw [hml, HKT.out] at this; exact this
      have hkh : ∀ W, Below wc.heap.size wc W → Calls Tryz.prog 18 #[ev sf m1 (l.length + 1) mc1] W fun e w' => e = .returned (.string ⟨(keyT sf l).toArray⟩) ∧ Below W.heap.size W w' := fun W hb => by
        have e : (M ++ [c0]).length = l.length + 1 := by rw [List.length_append, hml]; rfl
        have := key_any sf m1 mc1 (M ++ [c0]) W (ch.below hb) (by omega) (HW.out.below (btrans hwc hb)) (HT.out.below (btrans hwc hb) (Nat.le_refl _)) sh (by omega)
        rw [e, HKA.out c0 HC0.out] at this; exact this
      have hfg : ∀ W, Below wc.heap.size wc W → Calls Tryz.prog 19 #[ev sf (some a) l.length cap, ev sf (some b) l.length mc] W fun e w' => e = .returned (.bool true) ∧ Below W.heap.size W w' := fun W hb => by
        have := fcovers_any sf (some a) cap l sf (some b) mc M W (cl.below hb) (cm.below hb) (by omega) (by omega) (by omega) (by omega) (fun c h => (sm c h).2) (fun c h => (sm c h).1.2.2.1) (fun c h => (HSC.out c h).1.2.2.1)
        rw [covers_mems HMM2.out (fun c h => (HSC.out c h).2), hml] at this; exact this
      have hgf : ∀ W, Below wc.heap.size wc W → Calls Tryz.prog 19 #[ev sf (some b) l.length mc, ev sf (some a) l.length cap] W fun e w' => e = .returned (.bool true) ∧ Below W.heap.size W w' := fun W hb => by
        have := fcovers_any sf (some b) mc M sf (some a) cap l W (cm.below hb) (cl.below hb) (by omega) (by omega) (by omega) (by omega) (fun c h => (HSC.out c h).2) (fun c h => (HSC.out c h).1.2.2.1) (fun c h => (sm c h).1.2.2.1)
        rw [covers_mems HMM.out (fun c h => (sm c h).2), hml] at this; exact this
      have HKF := Lib.hid hkf; have HKG := Lib.hid hkg; have HKH := Lib.hid hkh; have HFG := Lib.hid hfg; have HGF := Lib.hid hgf; have HS8 := Lib.hid st; have HWC := Lib.hid hwc
      clear hkf hkg hkh hfg hgf st hwc cl cm ch sm sh x0 x1 y0 y1 z0 z1 HC HCM HCM1 HSC HMM HMM2 HKT HKA HS7 HS6 hml hl' hfm
      generalize keyT sf l = KF at *
      generalize l.length + 1 = n1 at *
      by_cases h7 : n1 ≤ 6
      · have d7 : decide ((6 : Int) < (n1 : Int)) = false := by rw [decide_eq_false_iff_not]; omega
        have d9 : decide (6 < n1) = false := by rw [decide_eq_false_iff_not]; omega
        have d8 : ¬ (6 : Int) < (n1 : Int) := by omega
        go_wp2_with fail
        refine wp_region_held_drew (S := (fun w' => w'.cell? ⟨w.heap.size, 0, none⟩ = some (.string ⟨sf.toArray⟩) ∧ w'.cell? ⟨w.heap.size, 1, none⟩ = some (.slice (some a) l.length cap) ∧ w'.cell? ⟨pg, 0, none⟩ = some (.string ⟨sf.toArray⟩) ∧ w'.cell? ⟨pg, 1, none⟩ = some (.slice (some b) l.length mc) ∧ w'.cell? ⟨ph, 0, none⟩ = some (.string ⟨sf.toArray⟩) ∧ w'.cell? ⟨ph, 1, none⟩ = some (.slice m1 n1 mc1) ∧ Below wc.heap.size wc w' ∧ (w.heap.size < w'.heap.size ∧ pg < w'.heap.size ∧ ph < w'.heap.size))) (by kernel_rfl) ?_ (fun hq0 => ?_)
        · ((try dsimp only); (first | exact s8_below (bdrewN (Below.refl _ _) 1) HS8.out | assumption | exact s8_below (by assumption) (by assumption)))
        (refine wpAnyH_take (i := 0) (oi := ?_) (v := ?_) ?_ (by kernel_rfl) (by kernel_rfl) (by kernel_rfl) ?_ (Or.inl ⟨?_, ?_⟩) (by assumption) ?_; rotate_left 2; (· (simp only [List.getElem?_toArray, List.getElem?_cons_zero]; first | done | rfl)); (· exact (fun _ _ _ h => h)); (· rfl); (· (intro w hSw; (try dsimp only at hSw); go_simp; (try with_reducible rfl))))
        (try simp only [Act.put, List.setIfInBounds_toArray, List.set_cons_zero, List.set_cons_succ])
        (refine wpAnyH_take (i := 2) (oi := ?_) (v := ?_) ?_ (by kernel_rfl) (by kernel_rfl) (by kernel_rfl) ?_ (Or.inl ⟨?_, ?_⟩) (by assumption) ?_; rotate_left 2; (· (simp only [List.getElem?_toArray, List.getElem?_cons_succ, List.getElem?_cons_zero]; first | done | rfl)); (· exact (fun _ _ _ h => h)); (· rfl); (· (intro w hSw; (try dsimp only at hSw); go_simp; (try with_reducible rfl))))
        (try simp only [Act.put, List.setIfInBounds_toArray, List.set_cons_zero, List.set_cons_succ])
        refine wpAnyH_ready (rs := [1]) (by kernel_rfl) (by simp) ?_
        refine AllReadyH.cons (o := ?_) ?_ (fun K hK => ?_) AllReadyH.nil
        rotate_left 1
        · (simp only [List.getElem?_toArray, List.getElem?_cons_succ, List.getElem?_cons_zero]; first | done | rfl)
        go_simp
        first | (refine hK.out _ _ ?_ (fun hq1 => ?_)) | ((first | (go_at_call 18; ((with_reducible refine (HKF.out _ (s8_own (by assumption))).mono ?_); rintro e w9 ⟨rfl, hb9⟩)) | (go_at_call 18; ((with_reducible refine (HKG.out _ (s8_own (by assumption))).mono ?_); rintro e w9 ⟨rfl, hb9⟩)) | (go_at_call 18; ((with_reducible refine (HKH.out _ (s8_own (by assumption))).mono ?_); rintro e w9 ⟨rfl, hb9⟩)) | (go_at_call 19; ((with_reducible refine (HFG.out _ (s8_own (by assumption))).mono ?_); rintro e w9 ⟨rfl, hb9⟩)) | (go_at_call 19; ((with_reducible refine (HGF.out _ (s8_own (by assumption))).mono ?_); rintro e w9 ⟨rfl, hb9⟩))); refine hK.out _ _ ?_ (fun hq1 => ?_)) | ((first | (go_at_call 18; ((with_reducible refine (HKF.out _ (s8_own (by assumption))).mono ?_); rintro e w9 ⟨rfl, hb9⟩)) | (go_at_call 18; ((with_reducible refine (HKG.out _ (s8_own (by assumption))).mono ?_); rintro e w9 ⟨rfl, hb9⟩)) | (go_at_call 18; ((with_reducible refine (HKH.out _ (s8_own (by assumption))).mono ?_); rintro e w9 ⟨rfl, hb9⟩)) | (go_at_call 19; ((with_reducible refine (HFG.out _ (s8_own (by assumption))).mono ?_); rintro e w9 ⟨rfl, hb9⟩)) | (go_at_call 19; ((with_reducible refine (HGF.out _ (s8_own (by assumption))).mono ?_); rintro e w9 ⟨rfl, hb9⟩))); go_wp2_with fail; refine hK.out _ _ ?_ (fun hq1 => ?_)) | fail
        · ((try dsimp only); (first | exact s8_below (bdrewN (Below.refl _ _) 1) HS8.out | assumption | exact s8_below (by assumption) (by assumption)))
        clear hK K
        (try simp only [Act.put, List.setIfInBounds_toArray, List.set_cons_zero, List.set_cons_succ])
        clear hq0
        refine wpAnyH_ready (rs := [3]) (by kernel_rfl) (by simp) ?_
        refine AllReadyH.cons (o := ?_) ?_ (fun K hK => ?_) AllReadyH.nil
        rotate_left 1
        · (simp only [List.getElem?_toArray, List.getElem?_cons_succ, List.getElem?_cons_zero]; first | done | rfl)
        go_simp
        first | (refine hK.out _ _ ?_ (fun hq2 => ?_)) | ((first | (go_at_call 18; ((with_reducible refine (HKF.out _ (s8_own (by assumption))).mono ?_); rintro e w9 ⟨rfl, hb9⟩)) | (go_at_call 18; ((with_reducible refine (HKG.out _ (s8_own (by assumption))).mono ?_); rintro e w9 ⟨rfl, hb9⟩)) | (go_at_call 18; ((with_reducible refine (HKH.out _ (s8_own (by assumption))).mono ?_); rintro e w9 ⟨rfl, hb9⟩)) | (go_at_call 19; ((with_reducible refine (HFG.out _ (s8_own (by assumption))).mono ?_); rintro e w9 ⟨rfl, hb9⟩)) | (go_at_call 19; ((with_reducible refine (HGF.out _ (s8_own (by assumption))).mono ?_); rintro e w9 ⟨rfl, hb9⟩))); refine hK.out _ _ ?_ (fun hq2 => ?_)) | ((first | (go_at_call 18; ((with_reducible refine (HKF.out _ (s8_own (by assumption))).mono ?_); rintro e w9 ⟨rfl, hb9⟩)) | (go_at_call 18; ((with_reducible refine (HKG.out _ (s8_own (by assumption))).mono ?_); rintro e w9 ⟨rfl, hb9⟩)) | (go_at_call 18; ((with_reducible refine (HKH.out _ (s8_own (by assumption))).mono ?_); rintro e w9 ⟨rfl, hb9⟩)) | (go_at_call 19; ((with_reducible refine (HFG.out _ (s8_own (by assumption))).mono ?_); rintro e w9 ⟨rfl, hb9⟩)) | (go_at_call 19; ((with_reducible refine (HGF.out _ (s8_own (by assumption))).mono ?_); rintro e w9 ⟨rfl, hb9⟩))); go_wp2_with fail; refine hK.out _ _ ?_ (fun hq2 => ?_)) | fail
        · ((try dsimp only); (first | exact s8_below (bdrewN (Below.refl _ _) 1) HS8.out | assumption | exact s8_below (by assumption) (by assumption)))
        clear hK K
        (try simp only [Act.put, List.setIfInBounds_toArray, List.set_cons_zero, List.set_cons_succ])
        clear hq1
        (refine wpAnyH_take (i := 4) (oi := ?_) (v := ?_) ?_ (by kernel_rfl) (by kernel_rfl) (by kernel_rfl) ?_ (Or.inl ⟨?_, ?_⟩) (by assumption) ?_; rotate_left 2; (· (simp only [List.getElem?_toArray, List.getElem?_cons_succ, List.getElem?_cons_zero]; first | done | rfl)); (· exact (fun _ _ _ h => h)); (· rfl); (· (intro w hSw; (try dsimp only at hSw); go_simp; (try with_reducible rfl))))
        (try simp only [Act.put, List.setIfInBounds_toArray, List.set_cons_zero, List.set_cons_succ])
        (refine wpAnyH_take (i := 5) (oi := ?_) (v := ?_) ?_ (by kernel_rfl) (by kernel_rfl) (by kernel_rfl) ?_ (Or.inl ⟨?_, ?_⟩) (by assumption) ?_; rotate_left 2; (· (simp only [List.getElem?_toArray, List.getElem?_cons_succ, List.getElem?_cons_zero]; first | done | rfl)); (· exact (fun _ _ _ h => h)); (· rfl); (· (intro w hSw; (try dsimp only at hSw); go_simp; (try with_reducible rfl))))
        (try simp only [Act.put, List.setIfInBounds_toArray, List.set_cons_zero, List.set_cons_succ])
        (refine wpAnyH_take (i := 6) (oi := ?_) (v := ?_) ?_ (by kernel_rfl) (by kernel_rfl) (by kernel_rfl) ?_ (Or.inl ⟨?_, ?_⟩) (by assumption) ?_; rotate_left 2; (· (simp only [List.getElem?_toArray, List.getElem?_cons_succ, List.getElem?_cons_zero]; first | done | rfl)); (· exact (fun _ _ _ h => h)); (· rfl); (· (intro w hSw; (try dsimp only at hSw); go_simp; (try with_reducible rfl))))
        (try simp only [Act.put, List.setIfInBounds_toArray, List.set_cons_zero, List.set_cons_succ])
        (refine wpAnyH_take (i := 7) (oi := ?_) (v := ?_) ?_ (by kernel_rfl) (by kernel_rfl) (by kernel_rfl) ?_ (Or.inl ⟨?_, ?_⟩) (by assumption) ?_; rotate_left 2; (· (simp only [List.getElem?_toArray, List.getElem?_cons_succ, List.getElem?_cons_zero]; first | done | rfl)); (· exact (fun _ _ _ h => h)); (· rfl); (· (intro w hSw; (try dsimp only at hSw); go_simp; (try with_reducible rfl))))
        (try simp only [Act.put, List.setIfInBounds_toArray, List.set_cons_zero, List.set_cons_succ])
        (refine wpAnyH_take (i := 8) (oi := ?_) (v := ?_) ?_ (by kernel_rfl) (by kernel_rfl) (by kernel_rfl) ?_ (Or.inl ⟨?_, ?_⟩) (by assumption) ?_; rotate_left 2; (· (simp only [List.getElem?_toArray, List.getElem?_cons_succ, List.getElem?_cons_zero]; first | done | rfl)); (· exact (fun _ _ _ h => h)); (· rfl); (· (intro w hSw; (try dsimp only at hSw); go_simp; (try with_reducible rfl))))
        (try simp only [Act.put, List.setIfInBounds_toArray, List.set_cons_zero, List.set_cons_succ])
        (refine wpAnyH_take (i := 9) (oi := ?_) (v := ?_) ?_ (by kernel_rfl) (by kernel_rfl) (by kernel_rfl) ?_ (Or.inl ⟨?_, ?_⟩) (by assumption) ?_; rotate_left 2; (· (simp only [List.getElem?_toArray, List.getElem?_cons_succ, List.getElem?_cons_zero]; first | done | rfl)); (· exact (fun _ _ _ h => h)); (· rfl); (· (intro w hSw; (try dsimp only at hSw); go_simp; (try with_reducible rfl))))
        (try simp only [Act.put, List.setIfInBounds_toArray, List.set_cons_zero, List.set_cons_succ])
        (refine wpAnyH_take (i := 10) (oi := ?_) (v := ?_) ?_ (by kernel_rfl) (by kernel_rfl) (by kernel_rfl) ?_ (Or.inl ⟨?_, ?_⟩) (by assumption) ?_; rotate_left 2; (· (simp only [List.getElem?_toArray, List.getElem?_cons_succ, List.getElem?_cons_zero]; first | done | rfl)); (· exact (fun _ _ _ h => h)); (· rfl); (· (intro w hSw; (try dsimp only at hSw); go_simp; (try with_reducible rfl))))
        (try simp only [Act.put, List.setIfInBounds_toArray, List.set_cons_zero, List.set_cons_succ])
        (refine wpAnyH_take (i := 11) (oi := ?_) (v := ?_) ?_ (by kernel_rfl) (by kernel_rfl) (by kernel_rfl) ?_ (Or.inl ⟨?_, ?_⟩) (by assumption) ?_; rotate_left 2; (· (simp only [List.getElem?_toArray, List.getElem?_cons_succ, List.getElem?_cons_zero]; first | done | rfl)); (· exact (fun _ _ _ h => h)); (· rfl); (· (intro w hSw; (try dsimp only at hSw); go_simp; (try with_reducible rfl))))
        (try simp only [Act.put, List.setIfInBounds_toArray, List.set_cons_zero, List.set_cons_succ])
        (refine wpAnyH_take (i := 13) (oi := ?_) (v := ?_) ?_ (by kernel_rfl) (by kernel_rfl) (by kernel_rfl) ?_ (Or.inl ⟨?_, ?_⟩) (by assumption) ?_; rotate_left 2; (· (simp only [List.getElem?_toArray, List.getElem?_cons_succ, List.getElem?_cons_zero]; first | done | rfl)); (· exact (fun _ _ _ h => h)); (· rfl); (· (intro w hSw; (try dsimp only at hSw); go_simp; (try with_reducible rfl))))
        (try simp only [Act.put, List.setIfInBounds_toArray, List.set_cons_zero, List.set_cons_succ])
        refine wpAnyH_ready (rs := [12]) (by kernel_rfl) (by simp) ?_
        refine AllReadyH.cons (o := ?_) ?_ (fun K hK => ?_) AllReadyH.nil
        rotate_left 1
        · (simp only [List.getElem?_toArray, List.getElem?_cons_succ, List.getElem?_cons_zero]; first | done | rfl)
        go_simp
        first | (refine hK.out _ _ ?_ (fun hq3 => ?_)) | ((first | (go_at_call 18; ((with_reducible refine (HKF.out _ (s8_own (by assumption))).mono ?_); rintro e w9 ⟨rfl, hb9⟩)) | (go_at_call 18; ((with_reducible refine (HKG.out _ (s8_own (by assumption))).mono ?_); rintro e w9 ⟨rfl, hb9⟩)) | (go_at_call 18; ((with_reducible refine (HKH.out _ (s8_own (by assumption))).mono ?_); rintro e w9 ⟨rfl, hb9⟩)) | (go_at_call 19; ((with_reducible refine (HFG.out _ (s8_own (by assumption))).mono ?_); rintro e w9 ⟨rfl, hb9⟩)) | (go_at_call 19; ((with_reducible refine (HGF.out _ (s8_own (by assumption))).mono ?_); rintro e w9 ⟨rfl, hb9⟩))); refine hK.out _ _ ?_ (fun hq3 => ?_)) | ((first | (go_at_call 18; ((with_reducible refine (HKF.out _ (s8_own (by assumption))).mono ?_); rintro e w9 ⟨rfl, hb9⟩)) | (go_at_call 18; ((with_reducible refine (HKG.out _ (s8_own (by assumption))).mono ?_); rintro e w9 ⟨rfl, hb9⟩)) | (go_at_call 18; ((with_reducible refine (HKH.out _ (s8_own (by assumption))).mono ?_); rintro e w9 ⟨rfl, hb9⟩)) | (go_at_call 19; ((with_reducible refine (HFG.out _ (s8_own (by assumption))).mono ?_); rintro e w9 ⟨rfl, hb9⟩)) | (go_at_call 19; ((with_reducible refine (HGF.out _ (s8_own (by assumption))).mono ?_); rintro e w9 ⟨rfl, hb9⟩))); go_wp2_with fail; refine hK.out _ _ ?_ (fun hq3 => ?_)) | fail
        · ((try dsimp only); (first | exact s8_below (bdrewN (Below.refl _ _) 1) HS8.out | assumption | exact s8_below (by assumption) (by assumption)))
        clear hK K
        (try simp only [Act.put, List.setIfInBounds_toArray, List.set_cons_zero, List.set_cons_succ])
        clear hq2
        refine wpAnyH_ready (rs := [14]) (by kernel_rfl) (by simp) ?_
        refine AllReadyH.cons (o := ?_) ?_ (fun K hK => ?_) AllReadyH.nil
        rotate_left 1
        · (simp only [List.getElem?_toArray, List.getElem?_cons_succ, List.getElem?_cons_zero]; first | done | rfl)
        go_simp
        first | (refine hK.out _ _ ?_ (fun hq4 => ?_)) | ((first | (go_at_call 18; ((with_reducible refine (HKF.out _ (s8_own (by assumption))).mono ?_); rintro e w9 ⟨rfl, hb9⟩)) | (go_at_call 18; ((with_reducible refine (HKG.out _ (s8_own (by assumption))).mono ?_); rintro e w9 ⟨rfl, hb9⟩)) | (go_at_call 18; ((with_reducible refine (HKH.out _ (s8_own (by assumption))).mono ?_); rintro e w9 ⟨rfl, hb9⟩)) | (go_at_call 19; ((with_reducible refine (HFG.out _ (s8_own (by assumption))).mono ?_); rintro e w9 ⟨rfl, hb9⟩)) | (go_at_call 19; ((with_reducible refine (HGF.out _ (s8_own (by assumption))).mono ?_); rintro e w9 ⟨rfl, hb9⟩))); refine hK.out _ _ ?_ (fun hq4 => ?_)) | ((first | (go_at_call 18; ((with_reducible refine (HKF.out _ (s8_own (by assumption))).mono ?_); rintro e w9 ⟨rfl, hb9⟩)) | (go_at_call 18; ((with_reducible refine (HKG.out _ (s8_own (by assumption))).mono ?_); rintro e w9 ⟨rfl, hb9⟩)) | (go_at_call 18; ((with_reducible refine (HKH.out _ (s8_own (by assumption))).mono ?_); rintro e w9 ⟨rfl, hb9⟩)) | (go_at_call 19; ((with_reducible refine (HFG.out _ (s8_own (by assumption))).mono ?_); rintro e w9 ⟨rfl, hb9⟩)) | (go_at_call 19; ((with_reducible refine (HGF.out _ (s8_own (by assumption))).mono ?_); rintro e w9 ⟨rfl, hb9⟩))); go_wp2_with fail; refine hK.out _ _ ?_ (fun hq4 => ?_)) | fail
        · ((try dsimp only); (first | exact s8_below (bdrewN (Below.refl _ _) 1) HS8.out | assumption | exact s8_below (by assumption) (by assumption)))
        clear hK K
        (try simp only [Act.put, List.setIfInBounds_toArray, List.set_cons_zero, List.set_cons_succ])
        clear hq3
        (refine wpAnyH_take (i := 15) (oi := ?_) (v := ?_) ?_ (by kernel_rfl) (by kernel_rfl) (by kernel_rfl) ?_ (Or.inl ⟨?_, ?_⟩) (by assumption) ?_; rotate_left 2; (· (simp only [List.getElem?_toArray, List.getElem?_cons_succ, List.getElem?_cons_zero]; first | done | rfl)); (· exact (fun _ _ _ h => h)); (· rfl); (· (intro w hSw; (try dsimp only at hSw); go_simp; (try with_reducible rfl))))
        (try simp only [Act.put, List.setIfInBounds_toArray, List.set_cons_zero, List.set_cons_succ])
        (refine wpAnyH_take (i := 16) (oi := ?_) (v := ?_) ?_ (by kernel_rfl) (by kernel_rfl) (by kernel_rfl) ?_ (Or.inl ⟨?_, ?_⟩) (by assumption) ?_; rotate_left 2; (· (simp only [List.getElem?_toArray, List.getElem?_cons_succ, List.getElem?_cons_zero]; first | done | rfl)); (· exact (fun _ _ _ h => h)); (· rfl); (· (intro w hSw; (try dsimp only at hSw); go_simp; (try with_reducible rfl))))
        (try simp only [Act.put, List.setIfInBounds_toArray, List.set_cons_zero, List.set_cons_succ])
        (refine wpAnyH_take (i := 17) (oi := ?_) (v := ?_) ?_ (by kernel_rfl) (by kernel_rfl) (by kernel_rfl) ?_ (Or.inl ⟨?_, ?_⟩) (by assumption) ?_; rotate_left 2; (· (simp only [List.getElem?_toArray, List.getElem?_cons_succ, List.getElem?_cons_zero]; first | done | rfl)); (· exact (fun _ _ _ h => h)); (· rfl); (· (intro w hSw; (try dsimp only at hSw); go_simp; (try with_reducible rfl))))
        (try simp only [Act.put, List.setIfInBounds_toArray, List.set_cons_zero, List.set_cons_succ])
        (refine wpAnyH_take (i := 18) (oi := ?_) (v := ?_) ?_ (by kernel_rfl) (by kernel_rfl) (by kernel_rfl) ?_ (Or.inl ⟨?_, ?_⟩) (by assumption) ?_; rotate_left 2; (· (simp only [List.getElem?_toArray, List.getElem?_cons_succ, List.getElem?_cons_zero]; first | done | rfl)); (· exact (fun _ _ _ h => h)); (· rfl); (· (intro w hSw; (try dsimp only at hSw); go_simp; (try with_reducible rfl))))
        (try simp only [Act.put, List.setIfInBounds_toArray, List.set_cons_zero, List.set_cons_succ])
        (refine wpAnyH_take (i := 19) (oi := ?_) (v := ?_) ?_ (by kernel_rfl) (by kernel_rfl) (by kernel_rfl) ?_ (Or.inl ⟨?_, ?_⟩) (by assumption) ?_; rotate_left 2; (· (simp only [List.getElem?_toArray, List.getElem?_cons_succ, List.getElem?_cons_zero]; first | done | rfl)); (· exact (fun _ _ _ h => h)); (· rfl); (· (intro w hSw; (try dsimp only at hSw); go_simp; (try with_reducible rfl))))
        (try simp only [Act.put, List.setIfInBounds_toArray, List.set_cons_zero, List.set_cons_succ])
        (refine wpAnyH_take (i := 20) (oi := ?_) (v := ?_) ?_ (by kernel_rfl) (by kernel_rfl) (by kernel_rfl) ?_ (Or.inl ⟨?_, ?_⟩) (by assumption) ?_; rotate_left 2; (· (simp only [List.getElem?_toArray, List.getElem?_cons_succ, List.getElem?_cons_zero]; first | done | rfl)); (· exact (fun _ _ _ h => h)); (· rfl); (· (intro w hSw; (try dsimp only at hSw); go_simp; (try with_reducible rfl))))
        (try simp only [Act.put, List.setIfInBounds_toArray, List.set_cons_zero, List.set_cons_succ])
        refine wpAnyH_ready (rs := [21]) (by kernel_rfl) (by simp) ?_
        refine AllReadyH.cons (o := ?_) ?_ (fun K hK => ?_) AllReadyH.nil
        rotate_left 1
        · (simp only [List.getElem?_toArray, List.getElem?_cons_succ, List.getElem?_cons_zero]; first | done | rfl)
        go_simp
        first | (refine hK.out _ _ ?_ (fun hq5 => ?_)) | ((first | (go_at_call 18; ((with_reducible refine (HKF.out _ (s8_own (by assumption))).mono ?_); rintro e w9 ⟨rfl, hb9⟩)) | (go_at_call 18; ((with_reducible refine (HKG.out _ (s8_own (by assumption))).mono ?_); rintro e w9 ⟨rfl, hb9⟩)) | (go_at_call 18; ((with_reducible refine (HKH.out _ (s8_own (by assumption))).mono ?_); rintro e w9 ⟨rfl, hb9⟩)) | (go_at_call 19; ((with_reducible refine (HFG.out _ (s8_own (by assumption))).mono ?_); rintro e w9 ⟨rfl, hb9⟩)) | (go_at_call 19; ((with_reducible refine (HGF.out _ (s8_own (by assumption))).mono ?_); rintro e w9 ⟨rfl, hb9⟩))); refine hK.out _ _ ?_ (fun hq5 => ?_)) | ((first | (go_at_call 18; ((with_reducible refine (HKF.out _ (s8_own (by assumption))).mono ?_); rintro e w9 ⟨rfl, hb9⟩)) | (go_at_call 18; ((with_reducible refine (HKG.out _ (s8_own (by assumption))).mono ?_); rintro e w9 ⟨rfl, hb9⟩)) | (go_at_call 18; ((with_reducible refine (HKH.out _ (s8_own (by assumption))).mono ?_); rintro e w9 ⟨rfl, hb9⟩)) | (go_at_call 19; ((with_reducible refine (HFG.out _ (s8_own (by assumption))).mono ?_); rintro e w9 ⟨rfl, hb9⟩)) | (go_at_call 19; ((with_reducible refine (HGF.out _ (s8_own (by assumption))).mono ?_); rintro e w9 ⟨rfl, hb9⟩))); go_wp2_with fail; refine hK.out _ _ ?_ (fun hq5 => ?_)) | fail
        · ((try dsimp only); (first | exact s8_below (bdrewN (Below.refl _ _) 1) HS8.out | assumption | exact s8_below (by assumption) (by assumption)))
        clear hK K
        (try simp only [Act.put, List.setIfInBounds_toArray, List.set_cons_zero, List.set_cons_succ])
        clear hq4
        (refine wpAnyH_take (i := 22) (oi := ?_) (v := ?_) ?_ (by kernel_rfl) (by kernel_rfl) (by kernel_rfl) ?_ (Or.inl ⟨?_, ?_⟩) (by assumption) ?_; rotate_left 2; (· (simp only [List.getElem?_toArray, List.getElem?_cons_succ, List.getElem?_cons_zero]; first | done | rfl)); (· exact (fun _ _ _ h => h)); (· rfl); (· (intro w hSw; (try dsimp only at hSw); go_simp; (try with_reducible rfl))))
        (try simp only [Act.put, List.setIfInBounds_toArray, List.set_cons_zero, List.set_cons_succ])
        (refine wpAnyH_take (i := 23) (oi := ?_) (v := ?_) ?_ (by kernel_rfl) (by kernel_rfl) (by kernel_rfl) ?_ (Or.inl ⟨?_, ?_⟩) (by assumption) ?_; rotate_left 2; (· (simp only [List.getElem?_toArray, List.getElem?_cons_succ, List.getElem?_cons_zero]; first | done | rfl)); (· exact (fun _ _ _ h => h)); (· rfl); (· (intro w hSw; (try dsimp only at hSw); go_simp; (try with_reducible rfl))))
        (try simp only [Act.put, List.setIfInBounds_toArray, List.set_cons_zero, List.set_cons_succ])
        (refine wpAnyH_take (i := 24) (oi := ?_) (v := ?_) ?_ (by kernel_rfl) (by kernel_rfl) (by kernel_rfl) ?_ (Or.inl ⟨?_, ?_⟩) (by assumption) ?_; rotate_left 2; (· (simp only [List.getElem?_toArray, List.getElem?_cons_succ, List.getElem?_cons_zero]; first | done | rfl)); (· exact (fun _ _ _ h => h)); (· rfl); (· (intro w hSw; (try dsimp only at hSw); go_simp; (try with_reducible rfl))))
        (try simp only [Act.put, List.setIfInBounds_toArray, List.set_cons_zero, List.set_cons_succ])
        (refine wpAnyH_take (i := 25) (oi := ?_) (v := ?_) ?_ (by kernel_rfl) (by kernel_rfl) (by kernel_rfl) ?_ (Or.inl ⟨?_, ?_⟩) (by assumption) ?_; rotate_left 2; (· (simp only [List.getElem?_toArray, List.getElem?_cons_succ, List.getElem?_cons_zero]; first | done | rfl)); (· exact (fun _ _ _ h => h)); (· rfl); (· (intro w hSw; (try dsimp only at hSw); go_simp; (try with_reducible rfl))))
        (try simp only [Act.put, List.setIfInBounds_toArray, List.set_cons_zero, List.set_cons_succ])
        refine wpAnyH_ready (rs := [26]) (by kernel_rfl) (by simp) ?_
        refine AllReadyH.cons (o := ?_) ?_ (fun K hK => ?_) AllReadyH.nil
        rotate_left 1
        · (simp only [List.getElem?_toArray, List.getElem?_cons_succ, List.getElem?_cons_zero]; first | done | rfl)
        go_simp
        first | (refine hK.out _ _ ?_ (fun hq6 => ?_)) | ((first | (go_at_call 18; ((with_reducible refine (HKF.out _ (s8_own (by assumption))).mono ?_); rintro e w9 ⟨rfl, hb9⟩)) | (go_at_call 18; ((with_reducible refine (HKG.out _ (s8_own (by assumption))).mono ?_); rintro e w9 ⟨rfl, hb9⟩)) | (go_at_call 18; ((with_reducible refine (HKH.out _ (s8_own (by assumption))).mono ?_); rintro e w9 ⟨rfl, hb9⟩)) | (go_at_call 19; ((with_reducible refine (HFG.out _ (s8_own (by assumption))).mono ?_); rintro e w9 ⟨rfl, hb9⟩)) | (go_at_call 19; ((with_reducible refine (HGF.out _ (s8_own (by assumption))).mono ?_); rintro e w9 ⟨rfl, hb9⟩))); refine hK.out _ _ ?_ (fun hq6 => ?_)) | ((first | (go_at_call 18; ((with_reducible refine (HKF.out _ (s8_own (by assumption))).mono ?_); rintro e w9 ⟨rfl, hb9⟩)) | (go_at_call 18; ((with_reducible refine (HKG.out _ (s8_own (by assumption))).mono ?_); rintro e w9 ⟨rfl, hb9⟩)) | (go_at_call 18; ((with_reducible refine (HKH.out _ (s8_own (by assumption))).mono ?_); rintro e w9 ⟨rfl, hb9⟩)) | (go_at_call 19; ((with_reducible refine (HFG.out _ (s8_own (by assumption))).mono ?_); rintro e w9 ⟨rfl, hb9⟩)) | (go_at_call 19; ((with_reducible refine (HGF.out _ (s8_own (by assumption))).mono ?_); rintro e w9 ⟨rfl, hb9⟩))); go_wp2_with fail; refine hK.out _ _ ?_ (fun hq6 => ?_)) | fail
        · ((try dsimp only); (first | exact s8_below (bdrewN (Below.refl _ _) 1) HS8.out | assumption | exact s8_below (by assumption) (by assumption)))
        clear hK K
        (try simp only [Act.put, List.setIfInBounds_toArray, List.set_cons_zero, List.set_cons_succ])
        clear hq5
        (refine wpAnyH_take (i := 27) (oi := ?_) (v := ?_) ?_ (by kernel_rfl) (by kernel_rfl) (by kernel_rfl) ?_ (Or.inl ⟨?_, ?_⟩) (by assumption) ?_; rotate_left 2; (· (simp only [List.getElem?_toArray, List.getElem?_cons_succ, List.getElem?_cons_zero]; first | done | rfl)); (· exact (fun _ _ _ h => h)); (· rfl); (· (intro w hSw; (try dsimp only at hSw); go_simp; (try with_reducible rfl))))
        (try simp only [Act.put, List.setIfInBounds_toArray, List.set_cons_zero, List.set_cons_succ])
        (refine wpAnyH_take (i := 28) (oi := ?_) (v := ?_) ?_ (by kernel_rfl) (by kernel_rfl) (by kernel_rfl) ?_ (Or.inl ⟨?_, ?_⟩) (by assumption) ?_; rotate_left 2; (· (simp only [List.getElem?_toArray, List.getElem?_cons_succ, List.getElem?_cons_zero]; first | done | rfl)); (· exact (fun _ _ _ h => h)); (· rfl); (· (intro w hSw; (try dsimp only at hSw); go_simp; (try with_reducible rfl))))
        (try simp only [Act.put, List.setIfInBounds_toArray, List.set_cons_zero, List.set_cons_succ])
        refine wpAnyH_done (by kernel_rfl) ?_ _
        go_wp2_with fail
        go_ret
        exact ⟨rfl, btrans HWC.out (s8_own (by assumption))⟩
      · have d7 : decide ((6 : Int) < (n1 : Int)) = true := by rw [decide_eq_true_eq]; omega
        have d9 : decide (6 < n1) = true := by rw [decide_eq_true_eq]; omega
        have d8 : (6 : Int) < (n1 : Int) := by omega
        go_wp2_with fail
        refine wp_region_held_drew (S := (fun w' => w'.cell? ⟨w.heap.size, 0, none⟩ = some (.string ⟨sf.toArray⟩) ∧ w'.cell? ⟨w.heap.size, 1, none⟩ = some (.slice (some a) l.length cap) ∧ w'.cell? ⟨pg, 0, none⟩ = some (.string ⟨sf.toArray⟩) ∧ w'.cell? ⟨pg, 1, none⟩ = some (.slice (some b) l.length mc) ∧ w'.cell? ⟨ph, 0, none⟩ = some (.string ⟨sf.toArray⟩) ∧ w'.cell? ⟨ph, 1, none⟩ = some (.slice m1 n1 mc1) ∧ Below wc.heap.size wc w' ∧ (w.heap.size < w'.heap.size ∧ pg < w'.heap.size ∧ ph < w'.heap.size))) (by kernel_rfl) ?_ (fun hq0 => ?_)
        · ((try dsimp only); (first | exact s8_below (bdrewN (Below.refl _ _) 1) HS8.out | assumption | exact s8_below (by assumption) (by assumption)))
        (refine wpAnyH_take (i := 0) (oi := ?_) (v := ?_) ?_ (by kernel_rfl) (by kernel_rfl) (by kernel_rfl) ?_ (Or.inl ⟨?_, ?_⟩) (by assumption) ?_; rotate_left 2; (· (simp only [List.getElem?_toArray, List.getElem?_cons_zero]; first | done | rfl)); (· exact (fun _ _ _ h => h)); (· rfl); (· (intro w hSw; (try dsimp only at hSw); go_simp; (try with_reducible rfl))))
        (try simp only [Act.put, List.setIfInBounds_toArray, List.set_cons_zero, List.set_cons_succ])
        (refine wpAnyH_take (i := 2) (oi := ?_) (v := ?_) ?_ (by kernel_rfl) (by kernel_rfl) (by kernel_rfl) ?_ (Or.inl ⟨?_, ?_⟩) (by assumption) ?_; rotate_left 2; (· (simp only [List.getElem?_toArray, List.getElem?_cons_succ, List.getElem?_cons_zero]; first | done | rfl)); (· exact (fun _ _ _ h => h)); (· rfl); (· (intro w hSw; (try dsimp only at hSw); go_simp; (try with_reducible rfl))))
        (try simp only [Act.put, List.setIfInBounds_toArray, List.set_cons_zero, List.set_cons_succ])
        refine wpAnyH_ready (rs := [1]) (by kernel_rfl) (by simp) ?_
        refine AllReadyH.cons (o := ?_) ?_ (fun K hK => ?_) AllReadyH.nil
        rotate_left 1
        · (simp only [List.getElem?_toArray, List.getElem?_cons_succ, List.getElem?_cons_zero]; first | done | rfl)
        go_simp
        first | (refine hK.out _ _ ?_ (fun hq1 => ?_)) | ((first | (go_at_call 18; ((with_reducible refine (HKF.out _ (s8_own (by assumption))).mono ?_); rintro e w9 ⟨rfl, hb9⟩)) | (go_at_call 18; ((with_reducible refine (HKG.out _ (s8_own (by assumption))).mono ?_); rintro e w9 ⟨rfl, hb9⟩)) | (go_at_call 18; ((with_reducible refine (HKH.out _ (s8_own (by assumption))).mono ?_); rintro e w9 ⟨rfl, hb9⟩)) | (go_at_call 19; ((with_reducible refine (HFG.out _ (s8_own (by assumption))).mono ?_); rintro e w9 ⟨rfl, hb9⟩)) | (go_at_call 19; ((with_reducible refine (HGF.out _ (s8_own (by assumption))).mono ?_); rintro e w9 ⟨rfl, hb9⟩))); refine hK.out _ _ ?_ (fun hq1 => ?_)) | ((first | (go_at_call 18; ((with_reducible refine (HKF.out _ (s8_own (by assumption))).mono ?_); rintro e w9 ⟨rfl, hb9⟩)) | (go_at_call 18; ((with_reducible refine (HKG.out _ (s8_own (by assumption))).mono ?_); rintro e w9 ⟨rfl, hb9⟩)) | (go_at_call 18; ((with_reducible refine (HKH.out _ (s8_own (by assumption))).mono ?_); rintro e w9 ⟨rfl, hb9⟩)) | (go_at_call 19; ((with_reducible refine (HFG.out _ (s8_own (by assumption))).mono ?_); rintro e w9 ⟨rfl, hb9⟩)) | (go_at_call 19; ((with_reducible refine (HGF.out _ (s8_own (by assumption))).mono ?_); rintro e w9 ⟨rfl, hb9⟩))); go_wp2_with fail; refine hK.out _ _ ?_ (fun hq1 => ?_)) | fail
        · ((try dsimp only); (first | exact s8_below (bdrewN (Below.refl _ _) 1) HS8.out | assumption | exact s8_below (by assumption) (by assumption)))
        clear hK K
        (try simp only [Act.put, List.setIfInBounds_toArray, List.set_cons_zero, List.set_cons_succ])
        clear hq0
        refine wpAnyH_ready (rs := [3]) (by kernel_rfl) (by simp) ?_
        refine AllReadyH.cons (o := ?_) ?_ (fun K hK => ?_) AllReadyH.nil
        rotate_left 1
        · (simp only [List.getElem?_toArray, List.getElem?_cons_succ, List.getElem?_cons_zero]; first | done | rfl)
        go_simp
        first | (refine hK.out _ _ ?_ (fun hq2 => ?_)) | ((first | (go_at_call 18; ((with_reducible refine (HKF.out _ (s8_own (by assumption))).mono ?_); rintro e w9 ⟨rfl, hb9⟩)) | (go_at_call 18; ((with_reducible refine (HKG.out _ (s8_own (by assumption))).mono ?_); rintro e w9 ⟨rfl, hb9⟩)) | (go_at_call 18; ((with_reducible refine (HKH.out _ (s8_own (by assumption))).mono ?_); rintro e w9 ⟨rfl, hb9⟩)) | (go_at_call 19; ((with_reducible refine (HFG.out _ (s8_own (by assumption))).mono ?_); rintro e w9 ⟨rfl, hb9⟩)) | (go_at_call 19; ((with_reducible refine (HGF.out _ (s8_own (by assumption))).mono ?_); rintro e w9 ⟨rfl, hb9⟩))); refine hK.out _ _ ?_ (fun hq2 => ?_)) | ((first | (go_at_call 18; ((with_reducible refine (HKF.out _ (s8_own (by assumption))).mono ?_); rintro e w9 ⟨rfl, hb9⟩)) | (go_at_call 18; ((with_reducible refine (HKG.out _ (s8_own (by assumption))).mono ?_); rintro e w9 ⟨rfl, hb9⟩)) | (go_at_call 18; ((with_reducible refine (HKH.out _ (s8_own (by assumption))).mono ?_); rintro e w9 ⟨rfl, hb9⟩)) | (go_at_call 19; ((with_reducible refine (HFG.out _ (s8_own (by assumption))).mono ?_); rintro e w9 ⟨rfl, hb9⟩)) | (go_at_call 19; ((with_reducible refine (HGF.out _ (s8_own (by assumption))).mono ?_); rintro e w9 ⟨rfl, hb9⟩))); go_wp2_with fail; refine hK.out _ _ ?_ (fun hq2 => ?_)) | fail
        · ((try dsimp only); (first | exact s8_below (bdrewN (Below.refl _ _) 1) HS8.out | assumption | exact s8_below (by assumption) (by assumption)))
        clear hK K
        (try simp only [Act.put, List.setIfInBounds_toArray, List.set_cons_zero, List.set_cons_succ])
        clear hq1
        (refine wpAnyH_take (i := 4) (oi := ?_) (v := ?_) ?_ (by kernel_rfl) (by kernel_rfl) (by kernel_rfl) ?_ (Or.inl ⟨?_, ?_⟩) (by assumption) ?_; rotate_left 2; (· (simp only [List.getElem?_toArray, List.getElem?_cons_succ, List.getElem?_cons_zero]; first | done | rfl)); (· exact (fun _ _ _ h => h)); (· rfl); (· (intro w hSw; (try dsimp only at hSw); go_simp; (try with_reducible rfl))))
        (try simp only [Act.put, List.setIfInBounds_toArray, List.set_cons_zero, List.set_cons_succ])
        (refine wpAnyH_take (i := 5) (oi := ?_) (v := ?_) ?_ (by kernel_rfl) (by kernel_rfl) (by kernel_rfl) ?_ (Or.inl ⟨?_, ?_⟩) (by assumption) ?_; rotate_left 2; (· (simp only [List.getElem?_toArray, List.getElem?_cons_succ, List.getElem?_cons_zero]; first | done | rfl)); (· exact (fun _ _ _ h => h)); (· rfl); (· (intro w hSw; (try dsimp only at hSw); go_simp; (try with_reducible rfl))))
        (try simp only [Act.put, List.setIfInBounds_toArray, List.set_cons_zero, List.set_cons_succ])
        (refine wpAnyH_take (i := 6) (oi := ?_) (v := ?_) ?_ (by kernel_rfl) (by kernel_rfl) (by kernel_rfl) ?_ (Or.inl ⟨?_, ?_⟩) (by assumption) ?_; rotate_left 2; (· (simp only [List.getElem?_toArray, List.getElem?_cons_succ, List.getElem?_cons_zero]; first | done | rfl)); (· exact (fun _ _ _ h => h)); (· rfl); (· (intro w hSw; (try dsimp only at hSw); go_simp; (try with_reducible rfl))))
        (try simp only [Act.put, List.setIfInBounds_toArray, List.set_cons_zero, List.set_cons_succ])
        (refine wpAnyH_take (i := 7) (oi := ?_) (v := ?_) ?_ (by kernel_rfl) (by kernel_rfl) (by kernel_rfl) ?_ (Or.inl ⟨?_, ?_⟩) (by assumption) ?_; rotate_left 2; (· (simp only [List.getElem?_toArray, List.getElem?_cons_succ, List.getElem?_cons_zero]; first | done | rfl)); (· exact (fun _ _ _ h => h)); (· rfl); (· (intro w hSw; (try dsimp only at hSw); go_simp; (try with_reducible rfl))))
        (try simp only [Act.put, List.setIfInBounds_toArray, List.set_cons_zero, List.set_cons_succ])
        (refine wpAnyH_take (i := 8) (oi := ?_) (v := ?_) ?_ (by kernel_rfl) (by kernel_rfl) (by kernel_rfl) ?_ (Or.inl ⟨?_, ?_⟩) (by assumption) ?_; rotate_left 2; (· (simp only [List.getElem?_toArray, List.getElem?_cons_succ, List.getElem?_cons_zero]; first | done | rfl)); (· exact (fun _ _ _ h => h)); (· rfl); (· (intro w hSw; (try dsimp only at hSw); go_simp; (try with_reducible rfl))))
        (try simp only [Act.put, List.setIfInBounds_toArray, List.set_cons_zero, List.set_cons_succ])
        (refine wpAnyH_take (i := 9) (oi := ?_) (v := ?_) ?_ (by kernel_rfl) (by kernel_rfl) (by kernel_rfl) ?_ (Or.inl ⟨?_, ?_⟩) (by assumption) ?_; rotate_left 2; (· (simp only [List.getElem?_toArray, List.getElem?_cons_succ, List.getElem?_cons_zero]; first | done | rfl)); (· exact (fun _ _ _ h => h)); (· rfl); (· (intro w hSw; (try dsimp only at hSw); go_simp; (try with_reducible rfl))))
        (try simp only [Act.put, List.setIfInBounds_toArray, List.set_cons_zero, List.set_cons_succ])
        (refine wpAnyH_take (i := 10) (oi := ?_) (v := ?_) ?_ (by kernel_rfl) (by kernel_rfl) (by kernel_rfl) ?_ (Or.inl ⟨?_, ?_⟩) (by assumption) ?_; rotate_left 2; (· (simp only [List.getElem?_toArray, List.getElem?_cons_succ, List.getElem?_cons_zero]; first | done | rfl)); (· exact (fun _ _ _ h => h)); (· rfl); (· (intro w hSw; (try dsimp only at hSw); go_simp; (try with_reducible rfl))))
        (try simp only [Act.put, List.setIfInBounds_toArray, List.set_cons_zero, List.set_cons_succ])
        (refine wpAnyH_take (i := 11) (oi := ?_) (v := ?_) ?_ (by kernel_rfl) (by kernel_rfl) (by kernel_rfl) ?_ (Or.inr ⟨?_, ?_⟩) (by assumption) ?_; rotate_left 2; (· (simp only [List.getElem?_toArray, List.getElem?_cons_succ, List.getElem?_cons_zero]; first | done | rfl)); (· exact (fun _ _ _ h => h)); (· rfl); (· rfl))
        (try simp only [Act.put, List.setIfInBounds_toArray, List.set_cons_zero, List.set_cons_succ])
        (refine wpAnyH_take (i := 12) (oi := ?_) (v := ?_) ?_ (by kernel_rfl) (by kernel_rfl) (by kernel_rfl) ?_ (Or.inr ⟨?_, ?_⟩) (by assumption) ?_; rotate_left 2; (· (simp only [List.getElem?_toArray, List.getElem?_cons_succ, List.getElem?_cons_zero]; first | done | rfl)); (· exact (fun _ _ _ h => h)); (· rfl); (· rfl))
        (try simp only [Act.put, List.setIfInBounds_toArray, List.set_cons_zero, List.set_cons_succ])
        (refine wpAnyH_take (i := 13) (oi := ?_) (v := ?_) ?_ (by kernel_rfl) (by kernel_rfl) (by kernel_rfl) ?_ (Or.inr ⟨?_, ?_⟩) (by assumption) ?_; rotate_left 2; (· (simp only [List.getElem?_toArray, List.getElem?_cons_succ, List.getElem?_cons_zero]; first | done | rfl)); (· exact (fun _ _ _ h => h)); (· rfl); (· rfl))
        (try simp only [Act.put, List.setIfInBounds_toArray, List.set_cons_zero, List.set_cons_succ])
        (refine wpAnyH_take (i := 14) (oi := ?_) (v := ?_) ?_ (by kernel_rfl) (by kernel_rfl) (by kernel_rfl) ?_ (Or.inr ⟨?_, ?_⟩) (by assumption) ?_; rotate_left 2; (· (simp only [List.getElem?_toArray, List.getElem?_cons_succ, List.getElem?_cons_zero]; first | done | rfl)); (· exact (fun _ _ _ h => h)); (· rfl); (· rfl))
        (try simp only [Act.put, List.setIfInBounds_toArray, List.set_cons_zero, List.set_cons_succ])
        (refine wpAnyH_take (i := 15) (oi := ?_) (v := ?_) ?_ (by kernel_rfl) (by kernel_rfl) (by kernel_rfl) ?_ (Or.inr ⟨?_, ?_⟩) (by assumption) ?_; rotate_left 2; (· (simp only [List.getElem?_toArray, List.getElem?_cons_succ, List.getElem?_cons_zero]; first | done | rfl)); (· exact (fun _ _ _ h => h)); (· rfl); (· rfl))
        (try simp only [Act.put, List.setIfInBounds_toArray, List.set_cons_zero, List.set_cons_succ])
        (refine wpAnyH_take (i := 16) (oi := ?_) (v := ?_) ?_ (by kernel_rfl) (by kernel_rfl) (by kernel_rfl) ?_ (Or.inl ⟨?_, ?_⟩) (by assumption) ?_; rotate_left 2; (· (simp only [List.getElem?_toArray, List.getElem?_cons_succ, List.getElem?_cons_zero]; first | done | rfl)); (· exact (fun _ _ _ h => h)); (· rfl); (· (intro w hSw; (try dsimp only at hSw); go_simp; (try with_reducible rfl))))
        (try simp only [Act.put, List.setIfInBounds_toArray, List.set_cons_zero, List.set_cons_succ])
        (refine wpAnyH_take (i := 17) (oi := ?_) (v := ?_) ?_ (by kernel_rfl) (by kernel_rfl) (by kernel_rfl) ?_ (Or.inl ⟨?_, ?_⟩) (by assumption) ?_; rotate_left 2; (· (simp only [List.getElem?_toArray, List.getElem?_cons_succ, List.getElem?_cons_zero]; first | done | rfl)); (· exact (fun _ _ _ h => h)); (· rfl); (· (intro w hSw; (try dsimp only at hSw); go_simp; (try with_reducible rfl))))
        (try simp only [Act.put, List.setIfInBounds_toArray, List.set_cons_zero, List.set_cons_succ])
        (refine wpAnyH_take (i := 18) (oi := ?_) (v := ?_) ?_ (by kernel_rfl) (by kernel_rfl) (by kernel_rfl) ?_ (Or.inl ⟨?_, ?_⟩) (by assumption) ?_; rotate_left 2; (· (simp only [List.getElem?_toArray, List.getElem?_cons_succ, List.getElem?_cons_zero]; first | done | rfl)); (· exact (fun _ _ _ h => h)); (· rfl); (· (intro w hSw; (try dsimp only at hSw); go_simp; (try with_reducible rfl))))
        (try simp only [Act.put, List.setIfInBounds_toArray, List.set_cons_zero, List.set_cons_succ])
        (refine wpAnyH_take (i := 19) (oi := ?_) (v := ?_) ?_ (by kernel_rfl) (by kernel_rfl) (by kernel_rfl) ?_ (Or.inl ⟨?_, ?_⟩) (by assumption) ?_; rotate_left 2; (· (simp only [List.getElem?_toArray, List.getElem?_cons_succ, List.getElem?_cons_zero]; first | done | rfl)); (· exact (fun _ _ _ h => h)); (· rfl); (· (intro w hSw; (try dsimp only at hSw); go_simp; (try with_reducible rfl))))
        (try simp only [Act.put, List.setIfInBounds_toArray, List.set_cons_zero, List.set_cons_succ])
        (refine wpAnyH_take (i := 20) (oi := ?_) (v := ?_) ?_ (by kernel_rfl) (by kernel_rfl) (by kernel_rfl) ?_ (Or.inl ⟨?_, ?_⟩) (by assumption) ?_; rotate_left 2; (· (simp only [List.getElem?_toArray, List.getElem?_cons_succ, List.getElem?_cons_zero]; first | done | rfl)); (· exact (fun _ _ _ h => h)); (· rfl); (· (intro w hSw; (try dsimp only at hSw); go_simp; (try with_reducible rfl))))
        (try simp only [Act.put, List.setIfInBounds_toArray, List.set_cons_zero, List.set_cons_succ])
        refine wpAnyH_ready (rs := [21]) (by kernel_rfl) (by simp) ?_
        refine AllReadyH.cons (o := ?_) ?_ (fun K hK => ?_) AllReadyH.nil
        rotate_left 1
        · (simp only [List.getElem?_toArray, List.getElem?_cons_succ, List.getElem?_cons_zero]; first | done | rfl)
        go_simp
        first | (refine hK.out _ _ ?_ (fun hq3 => ?_)) | ((first | (go_at_call 18; ((with_reducible refine (HKF.out _ (s8_own (by assumption))).mono ?_); rintro e w9 ⟨rfl, hb9⟩)) | (go_at_call 18; ((with_reducible refine (HKG.out _ (s8_own (by assumption))).mono ?_); rintro e w9 ⟨rfl, hb9⟩)) | (go_at_call 18; ((with_reducible refine (HKH.out _ (s8_own (by assumption))).mono ?_); rintro e w9 ⟨rfl, hb9⟩)) | (go_at_call 19; ((with_reducible refine (HFG.out _ (s8_own (by assumption))).mono ?_); rintro e w9 ⟨rfl, hb9⟩)) | (go_at_call 19; ((with_reducible refine (HGF.out _ (s8_own (by assumption))).mono ?_); rintro e w9 ⟨rfl, hb9⟩))); refine hK.out _ _ ?_ (fun hq3 => ?_)) | ((first | (go_at_call 18; ((with_reducible refine (HKF.out _ (s8_own (by assumption))).mono ?_); rintro e w9 ⟨rfl, hb9⟩)) | (go_at_call 18; ((with_reducible refine (HKG.out _ (s8_own (by assumption))).mono ?_); rintro e w9 ⟨rfl, hb9⟩)) | (go_at_call 18; ((with_reducible refine (HKH.out _ (s8_own (by assumption))).mono ?_); rintro e w9 ⟨rfl, hb9⟩)) | (go_at_call 19; ((with_reducible refine (HFG.out _ (s8_own (by assumption))).mono ?_); rintro e w9 ⟨rfl, hb9⟩)) | (go_at_call 19; ((with_reducible refine (HGF.out _ (s8_own (by assumption))).mono ?_); rintro e w9 ⟨rfl, hb9⟩))); go_wp2_with fail; refine hK.out _ _ ?_ (fun hq3 => ?_)) | fail
        · ((try dsimp only); (first | exact s8_below (bdrewN (Below.refl _ _) 1) HS8.out | assumption | exact s8_below (by assumption) (by assumption)))
        clear hK K
        (try simp only [Act.put, List.setIfInBounds_toArray, List.set_cons_zero, List.set_cons_succ])
        clear hq2
        (refine wpAnyH_take (i := 22) (oi := ?_) (v := ?_) ?_ (by kernel_rfl) (by kernel_rfl) (by kernel_rfl) ?_ (Or.inl ⟨?_, ?_⟩) (by assumption) ?_; rotate_left 2; (· (simp only [List.getElem?_toArray, List.getElem?_cons_succ, List.getElem?_cons_zero]; first | done | rfl)); (· exact (fun _ _ _ h => h)); (· rfl); (· (intro w hSw; (try dsimp only at hSw); go_simp; (try with_reducible rfl))))
        (try simp only [Act.put, List.setIfInBounds_toArray, List.set_cons_zero, List.set_cons_succ])
        (refine wpAnyH_take (i := 23) (oi := ?_) (v := ?_) ?_ (by kernel_rfl) (by kernel_rfl) (by kernel_rfl) ?_ (Or.inl ⟨?_, ?_⟩) (by assumption) ?_; rotate_left 2; (· (simp only [List.getElem?_toArray, List.getElem?_cons_succ, List.getElem?_cons_zero]; first | done | rfl)); (· exact (fun _ _ _ h => h)); (· rfl); (· (intro w hSw; (try dsimp only at hSw); go_simp; (try with_reducible rfl))))
        (try simp only [Act.put, List.setIfInBounds_toArray, List.set_cons_zero, List.set_cons_succ])
        (refine wpAnyH_take (i := 24) (oi := ?_) (v := ?_) ?_ (by kernel_rfl) (by kernel_rfl) (by kernel_rfl) ?_ (Or.inl ⟨?_, ?_⟩) (by assumption) ?_; rotate_left 2; (· (simp only [List.getElem?_toArray, List.getElem?_cons_succ, List.getElem?_cons_zero]; first | done | rfl)); (· exact (fun _ _ _ h => h)); (· rfl); (· (intro w hSw; (try dsimp only at hSw); go_simp; (try with_reducible rfl))))
        (try simp only [Act.put, List.setIfInBounds_toArray, List.set_cons_zero, List.set_cons_succ])
        (refine wpAnyH_take (i := 25) (oi := ?_) (v := ?_) ?_ (by kernel_rfl) (by kernel_rfl) (by kernel_rfl) ?_ (Or.inl ⟨?_, ?_⟩) (by assumption) ?_; rotate_left 2; (· (simp only [List.getElem?_toArray, List.getElem?_cons_succ, List.getElem?_cons_zero]; first | done | rfl)); (· exact (fun _ _ _ h => h)); (· rfl); (· (intro w hSw; (try dsimp only at hSw); go_simp; (try with_reducible rfl))))
        (try simp only [Act.put, List.setIfInBounds_toArray, List.set_cons_zero, List.set_cons_succ])
        refine wpAnyH_ready (rs := [26]) (by kernel_rfl) (by simp) ?_
        refine AllReadyH.cons (o := ?_) ?_ (fun K hK => ?_) AllReadyH.nil
        rotate_left 1
        · (simp only [List.getElem?_toArray, List.getElem?_cons_succ, List.getElem?_cons_zero]; first | done | rfl)
        go_simp
        first | (refine hK.out _ _ ?_ (fun hq4 => ?_)) | ((first | (go_at_call 18; ((with_reducible refine (HKF.out _ (s8_own (by assumption))).mono ?_); rintro e w9 ⟨rfl, hb9⟩)) | (go_at_call 18; ((with_reducible refine (HKG.out _ (s8_own (by assumption))).mono ?_); rintro e w9 ⟨rfl, hb9⟩)) | (go_at_call 18; ((with_reducible refine (HKH.out _ (s8_own (by assumption))).mono ?_); rintro e w9 ⟨rfl, hb9⟩)) | (go_at_call 19; ((with_reducible refine (HFG.out _ (s8_own (by assumption))).mono ?_); rintro e w9 ⟨rfl, hb9⟩)) | (go_at_call 19; ((with_reducible refine (HGF.out _ (s8_own (by assumption))).mono ?_); rintro e w9 ⟨rfl, hb9⟩))); refine hK.out _ _ ?_ (fun hq4 => ?_)) | ((first | (go_at_call 18; ((with_reducible refine (HKF.out _ (s8_own (by assumption))).mono ?_); rintro e w9 ⟨rfl, hb9⟩)) | (go_at_call 18; ((with_reducible refine (HKG.out _ (s8_own (by assumption))).mono ?_); rintro e w9 ⟨rfl, hb9⟩)) | (go_at_call 18; ((with_reducible refine (HKH.out _ (s8_own (by assumption))).mono ?_); rintro e w9 ⟨rfl, hb9⟩)) | (go_at_call 19; ((with_reducible refine (HFG.out _ (s8_own (by assumption))).mono ?_); rintro e w9 ⟨rfl, hb9⟩)) | (go_at_call 19; ((with_reducible refine (HGF.out _ (s8_own (by assumption))).mono ?_); rintro e w9 ⟨rfl, hb9⟩))); go_wp2_with fail; refine hK.out _ _ ?_ (fun hq4 => ?_)) | fail
        · ((try dsimp only); (first | exact s8_below (bdrewN (Below.refl _ _) 1) HS8.out | assumption | exact s8_below (by assumption) (by assumption)))
        clear hK K
        (try simp only [Act.put, List.setIfInBounds_toArray, List.set_cons_zero, List.set_cons_succ])
        clear hq3
        (refine wpAnyH_take (i := 27) (oi := ?_) (v := ?_) ?_ (by kernel_rfl) (by kernel_rfl) (by kernel_rfl) ?_ (Or.inl ⟨?_, ?_⟩) (by assumption) ?_; rotate_left 2; (· (simp only [List.getElem?_toArray, List.getElem?_cons_succ, List.getElem?_cons_zero]; first | done | rfl)); (· exact (fun _ _ _ h => h)); (· rfl); (· (intro w hSw; (try dsimp only at hSw); go_simp; (try with_reducible rfl))))
        (try simp only [Act.put, List.setIfInBounds_toArray, List.set_cons_zero, List.set_cons_succ])
        (refine wpAnyH_take (i := 28) (oi := ?_) (v := ?_) ?_ (by kernel_rfl) (by kernel_rfl) (by kernel_rfl) ?_ (Or.inl ⟨?_, ?_⟩) (by assumption) ?_; rotate_left 2; (· (simp only [List.getElem?_toArray, List.getElem?_cons_succ, List.getElem?_cons_zero]; first | done | rfl)); (· exact (fun _ _ _ h => h)); (· rfl); (· (intro w hSw; (try dsimp only at hSw); go_simp; (try with_reducible rfl))))
        (try simp only [Act.put, List.setIfInBounds_toArray, List.set_cons_zero, List.set_cons_succ])
        refine wpAnyH_done (by kernel_rfl) ?_ _
        go_wp2_with fail
        go_ret
        exact ⟨rfl, btrans HWC.out (s8_own (by assumption))⟩
end Go.Proofs.YtceplbanfpnhbaaGreatDoor.Val
end
