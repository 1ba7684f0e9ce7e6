/- THE WALK OF the law EventWithout. -/
import Derived.Test.YtdggofleokjmcaaGreatDoorGets
import Derived.Test.YtdggofleokjmcaaGreatDoorOpenN
namespace Go.Proofs.YtdggofleokjmcaaGreatDoor.Val
open Go.RowKit Flt
attribute [local go_sem] run_store_flt
def goneB (zs : List ByteArray) (nm : List UInt8) (j : Nat) : Bool := (zs.take j).any fun z => z.data.toList == nm
theorem gone_succ (zs : List ByteArray) (nm : List UInt8) (j : Nat) (h : j < zs.length) : goneB zs nm (j + 1) = (goneB zs nm j || (zs[j].data.toList == nm)) := by
  unfold goneB
  rw [List.take_succ_eq_append_getElem h]; simp only [List.any_append, List.any_cons, List.any_nil, Bool.or_false]
theorem gone_all (zs : List ByteArray) (nm : List UInt8) : goneB zs nm zs.length = Lib.containsS zs ⟨nm.toArray⟩ := by
  unfold goneB
  rw [List.take_length, Bool.eq_iff_iff, Lib.containsS_iff, List.any_eq_true]
  constructor
  · rintro ⟨z, hz, h⟩
    have : z = ⟨nm.toArray⟩ := by rw [beq_iff_eq] at h; subst h; rfl
    rw [← this]; exact hz
  · intro h
    exact ⟨_, h, by simp⟩
theorem keep_at (zs : List ByteArray) (l : List A) (k : Nat) (h : k < l.length) (hc : Lib.containsS zs ⟨l[k].name.toArray⟩ = false) :
    ∃ hn : (keepB zs (l.take k)).length < (keepB zs l).length, (keepB zs l)[(keepB zs (l.take k)).length] = l[k] := by
  have e : keepB zs l = keepB zs (l.take k) ++ l[k] :: keepB zs (l.drop (k + 1)) := by
    have h1 : l = l.take (k + 1) ++ l.drop (k + 1) := (List.take_append_drop _ _).symm
    have h2 := keep_succ zs l k h
    rw [hc] at h2
    conv => lhs; rw [h1]
    unfold keepB at h2 ⊢
    rw [List.filter_append, h2]; simp
  have hl : (keepB zs (l.take k)).length < (keepB zs l).length := by rw [e]; simp
  refine ⟨hl, ?_⟩
  have : (keepB zs l)[(keepB zs (l.take k)).length]? = some l[k] := by rw [e, List.getElem?_append_right (Nat.le_refl _)]; simp
  rw [List.getElem?_eq_getElem hl] at this
  exact Option.some.inj this
theorem keep_twice (zs : List ByteArray) (l : List A) : keepB zs (keepB zs l) = keepB zs l := by unfold keepB; rw [List.filter_filter]; simp
theorem keep_nil (l : List A) : keepB [] l = l := by
  unfold keepB
  rw [List.filter_eq_self]
  intro a _
  rw [Bool.not_eq_true', Bool.eq_false_iff]; intro hc; have := (Lib.containsS_iff _ _).1 hc; cases this
theorem wS_below {bf ba : Nat} {pk : Addr} {f0 f1 p0 p1 p2 p3 p4 p5 q0 q1 q2 q3 q4 q5 : Value} {w w1 w2 : World} (hb : Below w1.heap.size w1 w2) (h : (fun w' => w'.cell? ⟨bf, 0, none⟩ = some f0 ∧ w'.cell? ⟨bf, 1, none⟩ = some f1 ∧ w'.cell? ⟨ba, 0, none⟩ = some p0 ∧ w'.cell? ⟨ba, 1, none⟩ = some p1 ∧ w'.cell? ⟨ba, 2, none⟩ = some p2 ∧ w'.cell? ⟨ba, 3, none⟩ = some p3 ∧ w'.cell? ⟨ba, 4, none⟩ = some p4 ∧ w'.cell? ⟨ba, 5, none⟩ = some p5 ∧ w'.cell? pk = some q0 ∧ w'.cell? ⟨pk.block, pk.off + 1, none⟩ = some q1 ∧ w'.cell? ⟨pk.block, pk.off + 2, none⟩ = some q2 ∧ w'.cell? ⟨pk.block, pk.off + 3, none⟩ = some q3 ∧ w'.cell? ⟨pk.block, pk.off + 4, none⟩ = some q4 ∧ w'.cell? ⟨pk.block, pk.off + 5, none⟩ = some q5 ∧ Below w.heap.size w w' ∧ bf < w'.heap.size ∧ ba < w'.heap.size ∧ pk.block < w'.heap.size) w1) : (fun w' => w'.cell? ⟨bf, 0, none⟩ = some f0 ∧ w'.cell? ⟨bf, 1, none⟩ = some f1 ∧ w'.cell? ⟨ba, 0, none⟩ = some p0 ∧ w'.cell? ⟨ba, 1, none⟩ = some p1 ∧ w'.cell? ⟨ba, 2, none⟩ = some p2 ∧ w'.cell? ⟨ba, 3, none⟩ = some p3 ∧ w'.cell? ⟨ba, 4, none⟩ = some p4 ∧ w'.cell? ⟨ba, 5, none⟩ = some p5 ∧ w'.cell? pk = some q0 ∧ w'.cell? ⟨pk.block, pk.off + 1, none⟩ = some q1 ∧ w'.cell? ⟨pk.block, pk.off + 2, none⟩ = some q2 ∧ w'.cell? ⟨pk.block, pk.off + 3, none⟩ = some q3 ∧ w'.cell? ⟨pk.block, pk.off + 4, none⟩ = some q4 ∧ w'.cell? ⟨pk.block, pk.off + 5, none⟩ = some q5 ∧ Below w.heap.size w w' ∧ bf < w'.heap.size ∧ ba < w'.heap.size ∧ pk.block < w'.heap.size) w2 := by
  obtain ⟨a0, a1, h0, h1, h2, h3, h4, h5, y0, y1, y2, y3, y4, y5, hB, hl0, hl1, hl2⟩ := h
  have c : ∀ o, w2.cell? ⟨bf, o, none⟩ = w1.cell? ⟨bf, o, none⟩ := fun o => hb.cell (p := ⟨bf, o, none⟩) hl0
  have d : ∀ o, w2.cell? ⟨ba, o, none⟩ = w1.cell? ⟨ba, o, none⟩ := fun o => hb.cell (p := ⟨ba, o, none⟩) hl1
  have g : ∀ o, w2.cell? ⟨pk.block, o, none⟩ = w1.cell? ⟨pk.block, o, none⟩ := fun o => hb.cell (p := ⟨pk.block, o, none⟩) hl2
  exact ⟨by rw [c]; exact a0, by rw [c]; exact a1, by rw [d]; exact h0, by rw [d]; exact h1, by rw [d]; exact h2, by rw [d]; exact h3, by rw [d]; exact h4, by rw [d]; exact h5, (hb.cell (p := pk) hl2).trans y0, by rw [g]; exact y1, by rw [g]; exact y2, by rw [g]; exact y3, by rw [g]; exact y4, by rw [g]; exact y5, btrans hB hb, Nat.lt_of_lt_of_le hl0 hb.size, Nat.lt_of_lt_of_le hl1 hb.size, Nat.lt_of_lt_of_le hl2 hb.size⟩
theorem wS_own {bf ba : Nat} {pk : Addr} {f0 f1 p0 p1 p2 p3 p4 p5 q0 q1 q2 q3 q4 q5 : Value} {w w1 : World} (h : (fun w' => w'.cell? ⟨bf, 0, none⟩ = some f0 ∧ w'.cell? ⟨bf, 1, none⟩ = some f1 ∧ w'.cell? ⟨ba, 0, none⟩ = some p0 ∧ w'.cell? ⟨ba, 1, none⟩ = some p1 ∧ w'.cell? ⟨ba, 2, none⟩ = some p2 ∧ w'.cell? ⟨ba, 3, none⟩ = some p3 ∧ w'.cell? ⟨ba, 4, none⟩ = some p4 ∧ w'.cell? ⟨ba, 5, none⟩ = some p5 ∧ w'.cell? pk = some q0 ∧ w'.cell? ⟨pk.block, pk.off + 1, none⟩ = some q1 ∧ w'.cell? ⟨pk.block, pk.off + 2, none⟩ = some q2 ∧ w'.cell? ⟨pk.block, pk.off + 3, none⟩ = some q3 ∧ w'.cell? ⟨pk.block, pk.off + 4, none⟩ = some q4 ∧ w'.cell? ⟨pk.block, pk.off + 5, none⟩ = some q5 ∧ Below w.heap.size w w' ∧ bf < w'.heap.size ∧ ba < w'.heap.size ∧ pk.block < w'.heap.size) w1) : Below w.heap.size w w1 := h.2.2.2.2.2.2.2.2.2.2.2.2.2.2.1
theorem vS_below {be bf : Nat} {e0 e1 f0 f1 : Value} {b0 b1 o : Option Addr} {nb kb : List A} {zs : List ByteArray} {w w1 w2 : World} (hb : Below w1.heap.size w1 w2) (h : (fun w' => w'.cell? ⟨be, 0, none⟩ = some e0 ∧ w'.cell? ⟨be, 1, none⟩ = some e1 ∧ w'.cell? ⟨bf, 0, none⟩ = some f0 ∧ w'.cell? ⟨bf, 1, none⟩ = some f1 ∧ Attrs w' b0 nb ∧ Attrs w' b1 kb ∧ NamesO w' o zs ∧ Below w.heap.size w w' ∧ be < w'.heap.size ∧ bf < w'.heap.size) w1) : (fun w' => w'.cell? ⟨be, 0, none⟩ = some e0 ∧ w'.cell? ⟨be, 1, none⟩ = some e1 ∧ w'.cell? ⟨bf, 0, none⟩ = some f0 ∧ w'.cell? ⟨bf, 1, none⟩ = some f1 ∧ Attrs w' b0 nb ∧ Attrs w' b1 kb ∧ NamesO w' o zs ∧ Below w.heap.size w w' ∧ be < w'.heap.size ∧ bf < w'.heap.size) w2 := by
  obtain ⟨h0, h1, h2, h3, ha, ha2, hz, hB, hl0, hl1⟩ := h
  have c : ∀ o, w2.cell? ⟨be, o, none⟩ = w1.cell? ⟨be, o, none⟩ := fun o => hb.cell (p := ⟨be, o, none⟩) hl0
  have d : ∀ o, w2.cell? ⟨bf, o, none⟩ = w1.cell? ⟨bf, o, none⟩ := fun o => hb.cell (p := ⟨bf, o, none⟩) hl1
  exact ⟨by rw [c]; exact h0, by rw [c]; exact h1, by rw [d]; exact h2, by rw [d]; exact h3, ha.below hb, ha2.below hb, hz.below hb, btrans hB hb, Nat.lt_of_lt_of_le hl0 hb.size, Nat.lt_of_lt_of_le hl1 hb.size⟩
theorem vS_own {be bf : Nat} {e0 e1 f0 f1 : Value} {b0 b1 o : Option Addr} {nb kb : List A} {zs : List ByteArray} {w w1 : World} (h : (fun w' => w'.cell? ⟨be, 0, none⟩ = some e0 ∧ w'.cell? ⟨be, 1, none⟩ = some e1 ∧ w'.cell? ⟨bf, 0, none⟩ = some f0 ∧ w'.cell? ⟨bf, 1, none⟩ = some f1 ∧ Attrs w' b0 nb ∧ Attrs w' b1 kb ∧ NamesO w' o zs ∧ Below w.heap.size w w' ∧ be < w'.heap.size ∧ bf < w'.heap.size) w1) : Below w.heap.size w w1 := h.2.2.2.2.2.2.2.1
theorem vS_nb {be bf : Nat} {e0 e1 f0 f1 : Value} {b0 b1 o : Option Addr} {nb kb : List A} {zs : List ByteArray} {w w1 : World} (h : (fun w' => w'.cell? ⟨be, 0, none⟩ = some e0 ∧ w'.cell? ⟨be, 1, none⟩ = some e1 ∧ w'.cell? ⟨bf, 0, none⟩ = some f0 ∧ w'.cell? ⟨bf, 1, none⟩ = some f1 ∧ Attrs w' b0 nb ∧ Attrs w' b1 kb ∧ NamesO w' o zs ∧ Below w.heap.size w w' ∧ be < w'.heap.size ∧ bf < w'.heap.size) w1) : Attrs w1 b0 nb := h.2.2.2.2.1
theorem vS_kb {be bf : Nat} {e0 e1 f0 f1 : Value} {b0 b1 o : Option Addr} {nb kb : List A} {zs : List ByteArray} {w w1 : World} (h : (fun w' => w'.cell? ⟨be, 0, none⟩ = some e0 ∧ w'.cell? ⟨be, 1, none⟩ = some e1 ∧ w'.cell? ⟨bf, 0, none⟩ = some f0 ∧ w'.cell? ⟨bf, 1, none⟩ = some f1 ∧ Attrs w' b0 nb ∧ Attrs w' b1 kb ∧ NamesO w' o zs ∧ Below w.heap.size w w' ∧ be < w'.heap.size ∧ bf < w'.heap.size) w1) : Attrs w1 b1 kb := h.2.2.2.2.2.1
theorem vS_zs {be bf : Nat} {e0 e1 f0 f1 : Value} {b0 b1 o : Option Addr} {nb kb : List A} {zs : List ByteArray} {w w1 : World} (h : (fun w' => w'.cell? ⟨be, 0, none⟩ = some e0 ∧ w'.cell? ⟨be, 1, none⟩ = some e1 ∧ w'.cell? ⟨bf, 0, none⟩ = some f0 ∧ w'.cell? ⟨bf, 1, none⟩ = some f1 ∧ Attrs w' b0 nb ∧ Attrs w' b1 kb ∧ NamesO w' o zs ∧ Below w.heap.size w w' ∧ be < w'.heap.size ∧ bf < w'.heap.size) w1) : NamesO w1 o zs := h.2.2.2.2.2.2.1
set_option maxRecDepth 20000 in
set_option maxHeartbeats 2000000 in
theorem without_law (a0 : Option Addr) (cap : Nat) (l : List A) (o : Option Addr) (c : Nat) (zs : List ByteArray) (w : World) (hl : Attrs w a0 l) (hok : ∀ x ∈ l, Open.AOk x) (hm : l.length ≤ maxLen) (hz : NamesO w o zs) (hzm : zs.length ≤ maxLen) :
    Calls Tryz.prog 7 #[.slice a0 l.length cap, .slice o zs.length c] w fun e w' => e = .returned (.bool true) ∧ Below w.heap.size w w' := by
  have hli (w : World) (h : Attrs w a0 l) := light03_any a0 cap l w h hok hm
  have hnum := newB_num hok
  have HL := Lib.hid hl; have HLI := Lib.hid hli; have HNUM := Lib.hid hnum; have HZ := Lib.hid hz
  unfold maxLen at hm hzm
  clear hl hli hnum hok hz
  cases hlb : lightB l
  · rw [hlb] at HLI
    clear hlb HNUM
    go_enter Tryz.func7, Tryz.ntmps7
    go_wp2_with (first | (go_at_call 15; refine (fit03_any _).mono ?_; rintro e w1 ⟨rfl, hb1⟩) | (go_at_call 16; refine (HLI.out _ (HL.out.below (by repeat (first | assumption | (with_reducible exact Below.refl _ _) | exact balloc _ _ | exact balloc2 _ _ _ | refine btrans ?_ (by assumption) | refine btrans ?_ (balloc _ _))))).mono ?_; rintro e w2 ⟨rfl, hb2⟩))
    go_ret
    exact ⟨rfl, by repeat (first | assumption | (with_reducible exact Below.refl _ _) | exact balloc _ _ | exact balloc2 _ _ _ | refine btrans ?_ (by assumption) | refine btrans ?_ (balloc _ _))⟩
  rw [hlb] at HLI
  have hl30 : l.length ≤ 30 := by
    unfold lightB at hlb
    simp at hlb
    exact hlb.2
  clear hlb hm
  by_cases h20 : zs.length ≤ 20
  rotate_left
  · have d1 : decide (20 < (zs.length : Int)) = true := by rw [decide_eq_true_iff]; omega
    clear HNUM h20
    go_enter Tryz.func7, Tryz.ntmps7
    go_wp2_with (first | (go_at_call 15; refine (fit03_any _).mono ?_; rintro e w1 ⟨rfl, hb1⟩) | (go_at_call 16; refine (HLI.out _ (HL.out.below (by repeat (first | assumption | (with_reducible exact Below.refl _ _) | exact balloc _ _ | exact balloc2 _ _ _ | refine btrans ?_ (by assumption) | refine btrans ?_ (balloc _ _))))).mono ?_; rintro e w2 ⟨rfl, hb2⟩))
    go_ret
    exact ⟨rfl, by repeat (first | assumption | (with_reducible exact Below.refl _ _) | exact balloc _ _ | exact balloc2 _ _ _ | refine btrans ?_ (by assumption) | refine btrans ?_ (balloc _ _))⟩
  have d1 : decide (20 < (zs.length : Int)) = false := by rw [decide_eq_false_iff_not]; omega
  have hnew (w : World) (h : Attrs w a0 l) := new_any [115] a0 cap l w h (by omega)
  have hnl := newB_len l
  have HNEW := Lib.hid hnew
  clear hnew
  generalize newB l = nb at *
  have hkl : (keepB zs nb).length ≤ nb.length := List.length_filter_le _ _
  have hkn := keepB_num (zs := zs) HNUM.out
  have HKN := Lib.hid hkn; clear hkn
  go_enter Tryz.func7, Tryz.ntmps7
  go_wp2_with (first | (go_at_call 15; refine (fit03_any _).mono ?_; rintro e w1 ⟨rfl, hb1⟩) | (go_at_call 16; refine (HLI.out _ (HL.out.below (by repeat (first | assumption | (with_reducible exact Below.refl _ _) | exact balloc _ _ | exact balloc2 _ _ _ | refine btrans ?_ (by assumption) | refine btrans ?_ (balloc _ _))))).mono ?_; rintro e w2 ⟨rfl, hb2⟩))
  refine (HNEW.out _ (HL.out.below (by repeat (first | assumption | (with_reducible exact Below.refl _ _) | exact balloc _ _ | exact balloc2 _ _ _ | refine btrans ?_ (by assumption) | refine btrans ?_ (balloc _ _))))).mono ?_
  rintro e w3 ⟨b0, cp, rfl, hat3, _, hb3⟩
  have hbr3 : Below w.heap.size w w3 := by repeat (first | assumption | (with_reducible exact Below.refl _ _) | exact balloc _ _ | exact balloc2 _ _ _ | refine btrans ?_ (by assumption) | refine btrans ?_ (balloc _ _))
  have HB3 := Lib.hid hbr3; have HAT3 := Lib.hid hat3
  clear hb1 hb2 hb3 hbr3 hat3 HNEW
  go_wp2_with fail
  refine (without_o [115] b0 cp nb o c zs _ (HAT3.out.below (balloc _ _)) (by omega) (HZ.out.below (btrans HB3.out (balloc _ _))) (by omega)).mono ?_
  rintro e w4 ⟨b1, cp1, rfl, hat4, _, hb4⟩
  have hst : (fun w' => w'.cell? ⟨w3.heap.size, 0, none⟩ = some (.string ⟨#[115]⟩) ∧ w'.cell? ⟨w3.heap.size, 1, none⟩ = some (.slice b0 nb.length cp) ∧ w'.cell? ⟨w4.heap.size, 0, none⟩ = some (.string ⟨#[115]⟩) ∧ w'.cell? ⟨w4.heap.size, 1, none⟩ = some (.slice b1 (keepB zs nb).length cp1) ∧ Attrs w' b0 nb ∧ Attrs w' b1 (keepB zs nb) ∧ NamesO w' o zs ∧ Below w.heap.size w w' ∧ w3.heap.size < w'.heap.size ∧ w4.heap.size < w'.heap.size) (w4.alloc (.cells #[.string ⟨#[115]⟩, .slice b1 (keepB zs nb).length cp1] 26)) := by
    have hbr4 := btrans (btrans HB3.out (balloc w3 (.cells #[.string ⟨#[115]⟩, .slice b0 nb.length cp] 26))) hb4
    have hs4 : w3.heap.size < w4.heap.size := size1 hb4
    obtain ⟨hc4, hf4⟩ := bcell hb4
    have o0 := (hc4 w3.heap.size 0 (by simp)).trans (World.cell?_alloc_at _ _ _ _ rfl)
    have o1 := (hc4 w3.heap.size 1 (by simp)).trans (World.cell?_alloc_at _ _ _ _ rfl)
    have hE : ∀ o, (w4.alloc (.cells #[.string ⟨#[115]⟩, .slice b1 (keepB zs nb).length cp1] 26)).cell? ⟨w4.heap.size, o, none⟩ = #[.string ⟨#[115]⟩, .slice b1 (keepB zs nb).length cp1][o]? := fun o => World.cell?_alloc_at _ _ _ _ rfl
    exact ⟨(World.cell?_alloc_past _ _ _ hs4).trans o0, (World.cell?_alloc_past _ _ _ hs4).trans o1, hE 0, hE 1, ((HAT3.out.below (balloc _ _)).below hb4).below (balloc _ _), hat4.below (balloc _ _), (HZ.out.below hbr4).below (balloc _ _), btrans hbr4 (balloc _ _), by simp; omega, by simp⟩
  have hs34 : w3.heap.size < w4.heap.size := size1 hb4
  obtain ⟨hc4, hf4⟩ := bcell hb4
  have o0 := (hc4 w3.heap.size 0 (by simp)).trans (World.cell?_alloc_at _ _ _ _ rfl)
  have o1 := (hc4 w3.heap.size 1 (by simp)).trans (World.cell?_alloc_at _ _ _ _ rfl)
  have HST := Lib.hid hst
  clear hst hat4 hb4 HAT3 HB3 hc4 hf4
  go_wp2_with fail
  clear o0 o1
  generalize w4.alloc _ = W0 at *
  generalize w3.heap.size = be at *
  generalize w4.heap.size = bf at *
  go_loopw [7, 31] (fun vn vi wr => ∃ kk : Nat, kk ≤ nb.length ∧ vi = .int .i64 kk ∧ vn = .int .i64 ((keepB zs (nb.take kk)).length : Nat) ∧ Below W0.heap.size W0 wr) (fun _ vi _ => nb.length - (intOf vi).toNat)
  case atStart => exact ⟨0, Nat.zero_le _, rfl, rfl, Below.refl _ _⟩
  case round =>
    obtain ⟨kk, hk, rfl, rfl, hwr0⟩ := hrel
    have hS := vS_below hwr0 HST.out
    by_cases hlt : kk < nb.length
    · have i1 : (kk : Int) < (nb.length : Int) := by omega
      have i0 : (0 : Int) ≤ (kk : Int) := by omega
      have hks := keep_succ zs nb kk hlt
      have hka := keep_at zs nb kk hlt
      have hga := gone_all zs (nb[kk]).name
      have hke : (keepB zs (nb.take kk)).length ≤ nb.length := keep_len zs nb kk
      obtain ⟨a, rfl, v0, v1, v2, v3, v4, v5⟩ := (vS_nb hS) kk hlt
      have hna := HNUM.out _ (List.getElem_mem hlt)
      have HKS := Lib.hid hks; have HKA := Lib.hid hka; have HGA := Lib.hid hga; have HS := Lib.hid hS; have HNA := Lib.hid hna
      clear hks hka hga hna
      go_wp2_with fail
      have hbxa : BoxA (wr.alloc (.cells #[.string ⟨(nb[kk]).name.toArray⟩, .int .i64 (nb[kk]).val.kind, .int .i64 (nb[kk]).val.int, .float .f64 (nb[kk]).val.num, .string ⟨(nb[kk]).val.text.toArray⟩, .bool (nb[kk]).val.yes] 32)) wr.heap.size nb[kk] := by
        have c : ∀ o, (wr.alloc (.cells #[.string ⟨(nb[kk]).name.toArray⟩, .int .i64 (nb[kk]).val.kind, .int .i64 (nb[kk]).val.int, .float .f64 (nb[kk]).val.num, .string ⟨(nb[kk]).val.text.toArray⟩, .bool (nb[kk]).val.yes] 32)).cell? ⟨wr.heap.size, o, none⟩ = #[.string ⟨(nb[kk]).name.toArray⟩, .int .i64 (nb[kk]).val.kind, .int .i64 (nb[kk]).val.int, .float .f64 (nb[kk]).val.num, .string ⟨(nb[kk]).val.text.toArray⟩, .bool (nb[kk]).val.yes][o]? := fun o => World.cell?_alloc_at _ _ _ _ rfl
        exact ⟨c 0, c 1, c 2, c 3, c 4, c 5⟩
      have hSa := vS_below (balloc wr (.cells #[.string ⟨(nb[kk]).name.toArray⟩, .int .i64 (nb[kk]).val.kind, .int .i64 (nb[kk]).val.int, .float .f64 (nb[kk]).val.num, .string ⟨(nb[kk]).val.text.toArray⟩, .bool (nb[kk]).val.yes] 32)) hS
      have hwra := btrans hwr0 (balloc wr (.cells #[.string ⟨(nb[kk]).name.toArray⟩, .int .i64 (nb[kk]).val.kind, .int .i64 (nb[kk]).val.int, .float .f64 (nb[kk]).val.num, .string ⟨(nb[kk]).val.text.toArray⟩, .bool (nb[kk]).val.yes] 32))
      have hsa : wr.heap.size < (wr.alloc (.cells #[.string ⟨(nb[kk]).name.toArray⟩, .int .i64 (nb[kk]).val.kind, .int .i64 (nb[kk]).val.int, .float .f64 (nb[kk]).val.num, .string ⟨(nb[kk]).val.text.toArray⟩, .bool (nb[kk]).val.yes] 32)).heap.size := by simp
      clear v0 v1 v2 v3 v4 v5 hS HS hwr0
      generalize wr.alloc _ = Wa at *
      generalize wr.heap.size = ba at *
      have HSA := Lib.hid hSa; have HBXA := Lib.hid hbxa; have HWA := Lib.hid hwra
      obtain ⟨g0, g1, g2, g3, g4, g5⟩ := hbxa
      clear hSa hwra
      go_loop [10, 12, 37] (fun vg _ vi => ∃ j : Nat, j ≤ zs.length ∧ vi = .int .i64 j ∧ vg = .bool (goneB zs (nb[kk]).name j)) (fun _ _ vi => zs.length - (intOf vi).toNat)
      case atStart => exact ⟨0, Nat.zero_le _, rfl, rfl⟩
      case round =>
        obtain ⟨j, hj, rfl, rfl⟩ := hrel
        by_cases hjl : j < zs.length
        · have j1 : (j : Int) < (zs.length : Int) := by omega
          have j0 : (0 : Int) ≤ (j : Int) := by omega
          have hgs := gone_succ zs (nb[kk]).name j hjl
          rcases vS_zs HSA.out with hz0 | ⟨zb, zo, rfl, hzn⟩
          · subst hz0; simp at hjl
          have hzc := hzn j hjl
          have hze : zs.getD j ByteArray.empty = ⟨(zs[j].data.toList).toArray⟩ := by
            rw [List.getD_eq_getElem?_getD, List.getElem?_eq_getElem hjl]; rfl
          rw [hze] at hzc
          have HGS := Lib.hid hgs
          clear hgs hze hzn
          generalize zs[j].data.toList = zl at *
          cases hg : goneB zs (nb[kk]).name j
          · cases hq : (zl == (nb[kk]).name)
            all_goals
              go_wp2_with fail
              exact ⟨⟨j + 1, by omega, by go_num, congrArg _ (by rw [HGS.out, hg, hq]; rfl)⟩, by simp [intOf]; go_num⟩
          · go_wp2_with fail
            exact ⟨⟨j + 1, by omega, by go_num, congrArg _ (by rw [HGS.out, hg]; rfl)⟩, by simp [intOf]; go_num⟩
        · obtain rfl : j = zs.length := by omega
          rw [HGA.out]
          clear hjl hj HGA
          cases hG : Lib.containsS zs ⟨(nb[kk]).name.toArray⟩
          rotate_left
          · have hks2 : (keepB zs (nb.take (kk + 1))).length = (keepB zs (nb.take kk)).length := by rw [HKS.out, hG]; simp
            have HKS2 := Lib.hid hks2; clear hks2
            go_wp2_with fail
            exact ⟨⟨kk + 1, by omega, by go_num, by rw [HKS2.out], HWA.out⟩, by simp [intOf]; go_num⟩
          · obtain ⟨hn, hke2⟩ := HKA.out hG
            have hks2 : (keepB zs (nb.take (kk + 1))).length = (keepB zs (nb.take kk)).length + 1 := by rw [HKS.out, hG]; simp
            have HKS2 := Lib.hid hks2; clear hks2 HKA HKS hG
            generalize (keepB zs (nb.take kk)).length = nn at *
            obtain ⟨a2, rfl, v0, v1, v2, v3, v4, v5⟩ := (vS_kb HSA.out) nn hn
            rw [hke2] at v0 v1 v2 v3 v4 v5
            have hpk := World.block_lt_of_cell? _ _ v0
            have n1 : (nn : Int) < ((keepB zs nb).length : Int) := by omega
            have n0 : (0 : Int) ≤ (nn : Int) := by omega
            have d2 : decide ((keepB zs nb).length ≤ nn) = false := by rw [decide_eq_false_iff_not]; omega
            have hsm (w : World) := same_any (nb[kk]).val.kind (nb[kk]).val.int (nb[kk]).val.num (nb[kk]).val.text (nb[kk]).val.yes (nb[kk]).val.kind (nb[kk]).val.int (nb[kk]).val.num (nb[kk]).val.text (nb[kk]).val.yes w HNA.out HNA.out
            rw [sameB_self] at hsm
            have hst3 : (fun w' => w'.cell? ⟨bf, 0, none⟩ = some (.string ⟨#[115]⟩) ∧ w'.cell? ⟨bf, 1, none⟩ = some (.slice (some a2) (keepB zs nb).length cp1) ∧ w'.cell? ⟨ba, 0, none⟩ = some (.string ⟨(nb[kk]).name.toArray⟩) ∧ w'.cell? ⟨ba, 1, none⟩ = some (.int .i64 (nb[kk]).val.kind) ∧ w'.cell? ⟨ba, 2, none⟩ = some (.int .i64 (nb[kk]).val.int) ∧ w'.cell? ⟨ba, 3, none⟩ = some (.float .f64 (nb[kk]).val.num) ∧ w'.cell? ⟨ba, 4, none⟩ = some (.string ⟨(nb[kk]).val.text.toArray⟩) ∧ w'.cell? ⟨ba, 5, none⟩ = some (.bool (nb[kk]).val.yes) ∧ w'.cell? (a2.add (nn * 6)) = some (.string ⟨(nb[kk]).name.toArray⟩) ∧ w'.cell? ⟨(a2.add (nn * 6)).block, (a2.add (nn * 6)).off + 1, none⟩ = some (.int .i64 (nb[kk]).val.kind) ∧ w'.cell? ⟨(a2.add (nn * 6)).block, (a2.add (nn * 6)).off + 2, none⟩ = some (.int .i64 (nb[kk]).val.int) ∧ w'.cell? ⟨(a2.add (nn * 6)).block, (a2.add (nn * 6)).off + 3, none⟩ = some (.float .f64 (nb[kk]).val.num) ∧ w'.cell? ⟨(a2.add (nn * 6)).block, (a2.add (nn * 6)).off + 4, none⟩ = some (.string ⟨(nb[kk]).val.text.toArray⟩) ∧ w'.cell? ⟨(a2.add (nn * 6)).block, (a2.add (nn * 6)).off + 5, none⟩ = some (.bool (nb[kk]).val.yes) ∧ Below w.heap.size w w' ∧ bf < w'.heap.size ∧ ba < w'.heap.size ∧ (a2.add (nn * 6)).block < w'.heap.size) Wa := by
              obtain ⟨_, _, x0, x1, _, _, _, xB, _, xf⟩ := HSA.out
              exact ⟨x0, x1, g0, g1, g2, g3, g4, g5, v0, v1, v2, v3, v4, v5, xB, xf, hsa, hpk⟩
            have HST3 := Lib.hid hst3; have HSM := Lib.hid hsm
            clear hst3 hsm hke2 g0 g1 g2 g3 g4 g5 v0 v1 v2 v3 v4 v5
            go_wp2_with fail
            refine wp_region_held_drew (S := (fun w' => w'.cell? ⟨bf, 0, none⟩ = some (.string ⟨#[115]⟩) ∧ w'.cell? ⟨bf, 1, none⟩ = some (.slice (some a2) (keepB zs nb).length cp1) ∧ w'.cell? ⟨ba, 0, none⟩ = some (.string ⟨(nb[kk]).name.toArray⟩) ∧ w'.cell? ⟨ba, 1, none⟩ = some (.int .i64 (nb[kk]).val.kind) ∧ w'.cell? ⟨ba, 2, none⟩ = some (.int .i64 (nb[kk]).val.int) ∧ w'.cell? ⟨ba, 3, none⟩ = some (.float .f64 (nb[kk]).val.num) ∧ w'.cell? ⟨ba, 4, none⟩ = some (.string ⟨(nb[kk]).val.text.toArray⟩) ∧ w'.cell? ⟨ba, 5, none⟩ = some (.bool (nb[kk]).val.yes) ∧ w'.cell? (a2.add (nn * 6)) = some (.string ⟨(nb[kk]).name.toArray⟩) ∧ w'.cell? ⟨(a2.add (nn * 6)).block, (a2.add (nn * 6)).off + 1, none⟩ = some (.int .i64 (nb[kk]).val.kind) ∧ w'.cell? ⟨(a2.add (nn * 6)).block, (a2.add (nn * 6)).off + 2, none⟩ = some (.int .i64 (nb[kk]).val.int) ∧ w'.cell? ⟨(a2.add (nn * 6)).block, (a2.add (nn * 6)).off + 3, none⟩ = some (.float .f64 (nb[kk]).val.num) ∧ w'.cell? ⟨(a2.add (nn * 6)).block, (a2.add (nn * 6)).off + 4, none⟩ = some (.string ⟨(nb[kk]).val.text.toArray⟩) ∧ w'.cell? ⟨(a2.add (nn * 6)).block, (a2.add (nn * 6)).off + 5, none⟩ = some (.bool (nb[kk]).val.yes) ∧ Below w.heap.size w w' ∧ bf < w'.heap.size ∧ ba < w'.heap.size ∧ (a2.add (nn * 6)).block < w'.heap.size)) (by kernel_rfl) ?_ (fun hq0 => ?_)
            · ((try dsimp only); (first | exact wS_below (bdrewN (Below.refl _ _) 1) HST3.out | assumption | exact wS_below (by assumption) (by assumption)))
            first | (refine wpAnyH_take (i := 0) (oi := ?_) (v := ?_) ?_ (by kernel_rfl) (by kernel_rfl) (by kernel_rfl) ?_ (Or.inl ⟨?_, ?_⟩) (by assumption) ?_; rotate_left 2; (· (simp only [List.getElem?_toArray, List.getElem?_cons_zero]; first | done | rfl)); (· exact (fun _ _ _ h => h)); (· rfl); (· (intro w hSw; (try dsimp only at hSw); go_simp; (try with_reducible rfl)))) | (refine wpAnyH_take (i := 0) (oi := ?_) (v := ?_) ?_ (by kernel_rfl) (by kernel_rfl) (by kernel_rfl) ?_ (Or.inr ⟨?_, ?_⟩) (by assumption) ?_; rotate_left 2; (· (simp only [List.getElem?_toArray, List.getElem?_cons_zero]; first | done | rfl)); (· exact (fun _ _ _ h => h)); (· rfl); (· rfl)) | fail
            (try simp only [Act.put, List.setIfInBounds_toArray, List.set_cons_zero, List.set_cons_succ])
            first | (refine wpAnyH_take (i := 1) (oi := ?_) (v := ?_) ?_ (by kernel_rfl) (by kernel_rfl) (by kernel_rfl) ?_ (Or.inl ⟨?_, ?_⟩) (by assumption) ?_; rotate_left 2; (· (simp only [List.getElem?_toArray, List.getElem?_cons_succ, List.getElem?_cons_zero]; first | done | rfl)); (· exact (fun _ _ _ h => h)); (· rfl); (· (intro w hSw; (try dsimp only at hSw); go_simp; (try with_reducible rfl)))) | (refine wpAnyH_take (i := 1) (oi := ?_) (v := ?_) ?_ (by kernel_rfl) (by kernel_rfl) (by kernel_rfl) ?_ (Or.inr ⟨?_, ?_⟩) (by assumption) ?_; rotate_left 2; (· (simp only [List.getElem?_toArray, List.getElem?_cons_succ, List.getElem?_cons_zero]; first | done | rfl)); (· exact (fun _ _ _ h => h)); (· rfl); (· rfl)) | fail
            (try simp only [Act.put, List.setIfInBounds_toArray, List.set_cons_zero, List.set_cons_succ])
            first | (refine wpAnyH_take (i := 2) (oi := ?_) (v := ?_) ?_ (by kernel_rfl) (by kernel_rfl) (by kernel_rfl) ?_ (Or.inl ⟨?_, ?_⟩) (by assumption) ?_; rotate_left 2; (· (simp only [List.getElem?_toArray, List.getElem?_cons_succ, List.getElem?_cons_zero]; first | done | rfl)); (· exact (fun _ _ _ h => h)); (· rfl); (· (intro w hSw; (try dsimp only at hSw); go_simp; (try with_reducible rfl)))) | (refine wpAnyH_take (i := 2) (oi := ?_) (v := ?_) ?_ (by kernel_rfl) (by kernel_rfl) (by kernel_rfl) ?_ (Or.inr ⟨?_, ?_⟩) (by assumption) ?_; rotate_left 2; (· (simp only [List.getElem?_toArray, List.getElem?_cons_succ, List.getElem?_cons_zero]; first | done | rfl)); (· exact (fun _ _ _ h => h)); (· rfl); (· rfl)) | fail
            (try simp only [Act.put, List.setIfInBounds_toArray, List.set_cons_zero, List.set_cons_succ])
            first | (refine wpAnyH_take (i := 3) (oi := ?_) (v := ?_) ?_ (by kernel_rfl) (by kernel_rfl) (by kernel_rfl) ?_ (Or.inl ⟨?_, ?_⟩) (by assumption) ?_; rotate_left 2; (· (simp only [List.getElem?_toArray, List.getElem?_cons_succ, List.getElem?_cons_zero]; first | done | rfl)); (· exact (fun _ _ _ h => h)); (· rfl); (· (intro w hSw; (try dsimp only at hSw); go_simp; (try with_reducible rfl)))) | (refine wpAnyH_take (i := 3) (oi := ?_) (v := ?_) ?_ (by kernel_rfl) (by kernel_rfl) (by kernel_rfl) ?_ (Or.inr ⟨?_, ?_⟩) (by assumption) ?_; rotate_left 2; (· (simp only [List.getElem?_toArray, List.getElem?_cons_succ, List.getElem?_cons_zero]; first | done | rfl)); (· exact (fun _ _ _ h => h)); (· rfl); (· rfl)) | fail
            (try simp only [Act.put, List.setIfInBounds_toArray, List.set_cons_zero, List.set_cons_succ])
            first | (refine wpAnyH_take (i := 4) (oi := ?_) (v := ?_) ?_ (by kernel_rfl) (by kernel_rfl) (by kernel_rfl) ?_ (Or.inl ⟨?_, ?_⟩) (by assumption) ?_; rotate_left 2; (· (simp only [List.getElem?_toArray, List.getElem?_cons_succ, List.getElem?_cons_zero]; first | done | rfl)); (· exact (fun _ _ _ h => h)); (· rfl); (· (intro w hSw; (try dsimp only at hSw); go_simp; (try with_reducible rfl)))) | (refine wpAnyH_take (i := 4) (oi := ?_) (v := ?_) ?_ (by kernel_rfl) (by kernel_rfl) (by kernel_rfl) ?_ (Or.inr ⟨?_, ?_⟩) (by assumption) ?_; rotate_left 2; (· (simp only [List.getElem?_toArray, List.getElem?_cons_succ, List.getElem?_cons_zero]; first | done | rfl)); (· exact (fun _ _ _ h => h)); (· rfl); (· rfl)) | fail
            (try simp only [Act.put, List.setIfInBounds_toArray, List.set_cons_zero, List.set_cons_succ])
            first | (refine wpAnyH_take (i := 5) (oi := ?_) (v := ?_) ?_ (by kernel_rfl) (by kernel_rfl) (by kernel_rfl) ?_ (Or.inl ⟨?_, ?_⟩) (by assumption) ?_; rotate_left 2; (· (simp only [List.getElem?_toArray, List.getElem?_cons_succ, List.getElem?_cons_zero]; first | done | rfl)); (· exact (fun _ _ _ h => h)); (· rfl); (· (intro w hSw; (try dsimp only at hSw); go_simp; (try with_reducible rfl)))) | (refine wpAnyH_take (i := 5) (oi := ?_) (v := ?_) ?_ (by kernel_rfl) (by kernel_rfl) (by kernel_rfl) ?_ (Or.inr ⟨?_, ?_⟩) (by assumption) ?_; rotate_left 2; (· (simp only [List.getElem?_toArray, List.getElem?_cons_succ, List.getElem?_cons_zero]; first | done | rfl)); (· exact (fun _ _ _ h => h)); (· rfl); (· rfl)) | fail
            (try simp only [Act.put, List.setIfInBounds_toArray, List.set_cons_zero, List.set_cons_succ])
            first | (refine wpAnyH_take (i := 6) (oi := ?_) (v := ?_) ?_ (by kernel_rfl) (by kernel_rfl) (by kernel_rfl) ?_ (Or.inl ⟨?_, ?_⟩) (by assumption) ?_; rotate_left 2; (· (simp only [List.getElem?_toArray, List.getElem?_cons_succ, List.getElem?_cons_zero]; first | done | rfl)); (· exact (fun _ _ _ h => h)); (· rfl); (· (intro w hSw; (try dsimp only at hSw); go_simp; (try with_reducible rfl)))) | (refine wpAnyH_take (i := 6) (oi := ?_) (v := ?_) ?_ (by kernel_rfl) (by kernel_rfl) (by kernel_rfl) ?_ (Or.inr ⟨?_, ?_⟩) (by assumption) ?_; rotate_left 2; (· (simp only [List.getElem?_toArray, List.getElem?_cons_succ, List.getElem?_cons_zero]; first | done | rfl)); (· exact (fun _ _ _ h => h)); (· rfl); (· rfl)) | fail
            (try simp only [Act.put, List.setIfInBounds_toArray, List.set_cons_zero, List.set_cons_succ])
            first | (refine wpAnyH_take (i := 7) (oi := ?_) (v := ?_) ?_ (by kernel_rfl) (by kernel_rfl) (by kernel_rfl) ?_ (Or.inl ⟨?_, ?_⟩) (by assumption) ?_; rotate_left 2; (· (simp only [List.getElem?_toArray, List.getElem?_cons_succ, List.getElem?_cons_zero]; first | done | rfl)); (· exact (fun _ _ _ h => h)); (· rfl); (· (intro w hSw; (try dsimp only at hSw); go_simp; (try with_reducible rfl)))) | (refine wpAnyH_take (i := 7) (oi := ?_) (v := ?_) ?_ (by kernel_rfl) (by kernel_rfl) (by kernel_rfl) ?_ (Or.inr ⟨?_, ?_⟩) (by assumption) ?_; rotate_left 2; (· (simp only [List.getElem?_toArray, List.getElem?_cons_succ, List.getElem?_cons_zero]; first | done | rfl)); (· exact (fun _ _ _ h => h)); (· rfl); (· rfl)) | fail
            (try simp only [Act.put, List.setIfInBounds_toArray, List.set_cons_zero, List.set_cons_succ])
            first | (refine wpAnyH_take (i := 8) (oi := ?_) (v := ?_) ?_ (by kernel_rfl) (by kernel_rfl) (by kernel_rfl) ?_ (Or.inl ⟨?_, ?_⟩) (by assumption) ?_; rotate_left 2; (· (simp only [List.getElem?_toArray, List.getElem?_cons_succ, List.getElem?_cons_zero]; first | done | rfl)); (· exact (fun _ _ _ h => h)); (· rfl); (· (intro w hSw; (try dsimp only at hSw); go_simp; (try with_reducible rfl)))) | (refine wpAnyH_take (i := 8) (oi := ?_) (v := ?_) ?_ (by kernel_rfl) (by kernel_rfl) (by kernel_rfl) ?_ (Or.inr ⟨?_, ?_⟩) (by assumption) ?_; rotate_left 2; (· (simp only [List.getElem?_toArray, List.getElem?_cons_succ, List.getElem?_cons_zero]; first | done | rfl)); (· exact (fun _ _ _ h => h)); (· rfl); (· rfl)) | fail
            (try simp only [Act.put, List.setIfInBounds_toArray, List.set_cons_zero, List.set_cons_succ])
            first | (refine wpAnyH_take (i := 9) (oi := ?_) (v := ?_) ?_ (by kernel_rfl) (by kernel_rfl) (by kernel_rfl) ?_ (Or.inl ⟨?_, ?_⟩) (by assumption) ?_; rotate_left 2; (· (simp only [List.getElem?_toArray, List.getElem?_cons_succ, List.getElem?_cons_zero]; first | done | rfl)); (· exact (fun _ _ _ h => h)); (· rfl); (· (intro w hSw; (try dsimp only at hSw); go_simp; (try with_reducible rfl)))) | (refine wpAnyH_take (i := 9) (oi := ?_) (v := ?_) ?_ (by kernel_rfl) (by kernel_rfl) (by kernel_rfl) ?_ (Or.inr ⟨?_, ?_⟩) (by assumption) ?_; rotate_left 2; (· (simp only [List.getElem?_toArray, List.getElem?_cons_succ, List.getElem?_cons_zero]; first | done | rfl)); (· exact (fun _ _ _ h => h)); (· rfl); (· rfl)) | fail
            (try simp only [Act.put, List.setIfInBounds_toArray, List.set_cons_zero, List.set_cons_succ])
            first | (refine wpAnyH_take (i := 10) (oi := ?_) (v := ?_) ?_ (by kernel_rfl) (by kernel_rfl) (by kernel_rfl) ?_ (Or.inl ⟨?_, ?_⟩) (by assumption) ?_; rotate_left 2; (· (simp only [List.getElem?_toArray, List.getElem?_cons_succ, List.getElem?_cons_zero]; first | done | rfl)); (· exact (fun _ _ _ h => h)); (· rfl); (· (intro w hSw; (try dsimp only at hSw); go_simp; (try with_reducible rfl)))) | (refine wpAnyH_take (i := 10) (oi := ?_) (v := ?_) ?_ (by kernel_rfl) (by kernel_rfl) (by kernel_rfl) ?_ (Or.inr ⟨?_, ?_⟩) (by assumption) ?_; rotate_left 2; (· (simp only [List.getElem?_toArray, List.getElem?_cons_succ, List.getElem?_cons_zero]; first | done | rfl)); (· exact (fun _ _ _ h => h)); (· rfl); (· rfl)) | fail
            (try simp only [Act.put, List.setIfInBounds_toArray, List.set_cons_zero, List.set_cons_succ])
            first | (refine wpAnyH_take (i := 11) (oi := ?_) (v := ?_) ?_ (by kernel_rfl) (by kernel_rfl) (by kernel_rfl) ?_ (Or.inl ⟨?_, ?_⟩) (by assumption) ?_; rotate_left 2; (· (simp only [List.getElem?_toArray, List.getElem?_cons_succ, List.getElem?_cons_zero]; first | done | rfl)); (· exact (fun _ _ _ h => h)); (· rfl); (· (intro w hSw; (try dsimp only at hSw); go_simp; (try with_reducible rfl)))) | (refine wpAnyH_take (i := 11) (oi := ?_) (v := ?_) ?_ (by kernel_rfl) (by kernel_rfl) (by kernel_rfl) ?_ (Or.inr ⟨?_, ?_⟩) (by assumption) ?_; rotate_left 2; (· (simp only [List.getElem?_toArray, List.getElem?_cons_succ, List.getElem?_cons_zero]; first | done | rfl)); (· exact (fun _ _ _ h => h)); (· rfl); (· rfl)) | fail
            (try simp only [Act.put, List.setIfInBounds_toArray, List.set_cons_zero, List.set_cons_succ])
            first | (refine wpAnyH_take (i := 12) (oi := ?_) (v := ?_) ?_ (by kernel_rfl) (by kernel_rfl) (by kernel_rfl) ?_ (Or.inl ⟨?_, ?_⟩) (by assumption) ?_; rotate_left 2; (· (simp only [List.getElem?_toArray, List.getElem?_cons_succ, List.getElem?_cons_zero]; first | done | rfl)); (· exact (fun _ _ _ h => h)); (· rfl); (· (intro w hSw; (try dsimp only at hSw); go_simp; (try with_reducible rfl)))) | (refine wpAnyH_take (i := 12) (oi := ?_) (v := ?_) ?_ (by kernel_rfl) (by kernel_rfl) (by kernel_rfl) ?_ (Or.inr ⟨?_, ?_⟩) (by assumption) ?_; rotate_left 2; (· (simp only [List.getElem?_toArray, List.getElem?_cons_succ, List.getElem?_cons_zero]; first | done | rfl)); (· exact (fun _ _ _ h => h)); (· rfl); (· rfl)) | fail
            (try simp only [Act.put, List.setIfInBounds_toArray, List.set_cons_zero, List.set_cons_succ])
            first | (refine wpAnyH_take (i := 13) (oi := ?_) (v := ?_) ?_ (by kernel_rfl) (by kernel_rfl) (by kernel_rfl) ?_ (Or.inl ⟨?_, ?_⟩) (by assumption) ?_; rotate_left 2; (· (simp only [List.getElem?_toArray, List.getElem?_cons_succ, List.getElem?_cons_zero]; first | done | rfl)); (· exact (fun _ _ _ h => h)); (· rfl); (· (intro w hSw; (try dsimp only at hSw); go_simp; (try with_reducible rfl)))) | (refine wpAnyH_take (i := 13) (oi := ?_) (v := ?_) ?_ (by kernel_rfl) (by kernel_rfl) (by kernel_rfl) ?_ (Or.inr ⟨?_, ?_⟩) (by assumption) ?_; rotate_left 2; (· (simp only [List.getElem?_toArray, List.getElem?_cons_succ, List.getElem?_cons_zero]; first | done | rfl)); (· exact (fun _ _ _ h => h)); (· rfl); (· rfl)) | fail
            (try simp only [Act.put, List.setIfInBounds_toArray, List.set_cons_zero, List.set_cons_succ])
            first | (refine wpAnyH_take (i := 14) (oi := ?_) (v := ?_) ?_ (by kernel_rfl) (by kernel_rfl) (by kernel_rfl) ?_ (Or.inl ⟨?_, ?_⟩) (by assumption) ?_; rotate_left 2; (· (simp only [List.getElem?_toArray, List.getElem?_cons_succ, List.getElem?_cons_zero]; first | done | rfl)); (· exact (fun _ _ _ h => h)); (· rfl); (· (intro w hSw; (try dsimp only at hSw); go_simp; (try with_reducible rfl)))) | (refine wpAnyH_take (i := 14) (oi := ?_) (v := ?_) ?_ (by kernel_rfl) (by kernel_rfl) (by kernel_rfl) ?_ (Or.inr ⟨?_, ?_⟩) (by assumption) ?_; rotate_left 2; (· (simp only [List.getElem?_toArray, List.getElem?_cons_succ, List.getElem?_cons_zero]; first | done | rfl)); (· exact (fun _ _ _ h => h)); (· rfl); (· rfl)) | fail
            (try simp only [Act.put, List.setIfInBounds_toArray, List.set_cons_zero, List.set_cons_succ])
            first | (refine wpAnyH_take (i := 15) (oi := ?_) (v := ?_) ?_ (by kernel_rfl) (by kernel_rfl) (by kernel_rfl) ?_ (Or.inl ⟨?_, ?_⟩) (by assumption) ?_; rotate_left 2; (· (simp only [List.getElem?_toArray, List.getElem?_cons_succ, List.getElem?_cons_zero]; first | done | rfl)); (· exact (fun _ _ _ h => h)); (· rfl); (· (intro w hSw; (try dsimp only at hSw); go_simp; (try with_reducible rfl)))) | (refine wpAnyH_take (i := 15) (oi := ?_) (v := ?_) ?_ (by kernel_rfl) (by kernel_rfl) (by kernel_rfl) ?_ (Or.inr ⟨?_, ?_⟩) (by assumption) ?_; rotate_left 2; (· (simp only [List.getElem?_toArray, List.getElem?_cons_succ, List.getElem?_cons_zero]; first | done | rfl)); (· exact (fun _ _ _ h => h)); (· rfl); (· rfl)) | fail
            (try simp only [Act.put, List.setIfInBounds_toArray, List.set_cons_zero, List.set_cons_succ])
            first | (refine wpAnyH_take (i := 16) (oi := ?_) (v := ?_) ?_ (by kernel_rfl) (by kernel_rfl) (by kernel_rfl) ?_ (Or.inl ⟨?_, ?_⟩) (by assumption) ?_; rotate_left 2; (· (simp only [List.getElem?_toArray, List.getElem?_cons_succ, List.getElem?_cons_zero]; first | done | rfl)); (· exact (fun _ _ _ h => h)); (· rfl); (· (intro w hSw; (try dsimp only at hSw); go_simp; (try with_reducible rfl)))) | (refine wpAnyH_take (i := 16) (oi := ?_) (v := ?_) ?_ (by kernel_rfl) (by kernel_rfl) (by kernel_rfl) ?_ (Or.inr ⟨?_, ?_⟩) (by assumption) ?_; rotate_left 2; (· (simp only [List.getElem?_toArray, List.getElem?_cons_succ, List.getElem?_cons_zero]; first | done | rfl)); (· exact (fun _ _ _ h => h)); (· rfl); (· rfl)) | fail
            (try simp only [Act.put, List.setIfInBounds_toArray, List.set_cons_zero, List.set_cons_succ])
            first | (refine wpAnyH_take (i := 17) (oi := ?_) (v := ?_) ?_ (by kernel_rfl) (by kernel_rfl) (by kernel_rfl) ?_ (Or.inl ⟨?_, ?_⟩) (by assumption) ?_; rotate_left 2; (· (simp only [List.getElem?_toArray, List.getElem?_cons_succ, List.getElem?_cons_zero]; first | done | rfl)); (· exact (fun _ _ _ h => h)); (· rfl); (· (intro w hSw; (try dsimp only at hSw); go_simp; (try with_reducible rfl)))) | (refine wpAnyH_take (i := 17) (oi := ?_) (v := ?_) ?_ (by kernel_rfl) (by kernel_rfl) (by kernel_rfl) ?_ (Or.inr ⟨?_, ?_⟩) (by assumption) ?_; rotate_left 2; (· (simp only [List.getElem?_toArray, List.getElem?_cons_succ, List.getElem?_cons_zero]; first | done | rfl)); (· exact (fun _ _ _ h => h)); (· rfl); (· rfl)) | fail
            (try simp only [Act.put, List.setIfInBounds_toArray, List.set_cons_zero, List.set_cons_succ])
            first | (refine wpAnyH_take (i := 18) (oi := ?_) (v := ?_) ?_ (by kernel_rfl) (by kernel_rfl) (by kernel_rfl) ?_ (Or.inl ⟨?_, ?_⟩) (by assumption) ?_; rotate_left 2; (· (simp only [List.getElem?_toArray, List.getElem?_cons_succ, List.getElem?_cons_zero]; first | done | rfl)); (· exact (fun _ _ _ h => h)); (· rfl); (· (intro w hSw; (try dsimp only at hSw); go_simp; (try with_reducible rfl)))) | (refine wpAnyH_take (i := 18) (oi := ?_) (v := ?_) ?_ (by kernel_rfl) (by kernel_rfl) (by kernel_rfl) ?_ (Or.inr ⟨?_, ?_⟩) (by assumption) ?_; rotate_left 2; (· (simp only [List.getElem?_toArray, List.getElem?_cons_succ, List.getElem?_cons_zero]; first | done | rfl)); (· exact (fun _ _ _ h => h)); (· rfl); (· rfl)) | fail
            (try simp only [Act.put, List.setIfInBounds_toArray, List.set_cons_zero, List.set_cons_succ])
            first | (refine wpAnyH_take (i := 19) (oi := ?_) (v := ?_) ?_ (by kernel_rfl) (by kernel_rfl) (by kernel_rfl) ?_ (Or.inl ⟨?_, ?_⟩) (by assumption) ?_; rotate_left 2; (· (simp only [List.getElem?_toArray, List.getElem?_cons_succ, List.getElem?_cons_zero]; first | done | rfl)); (· exact (fun _ _ _ h => h)); (· rfl); (· (intro w hSw; (try dsimp only at hSw); go_simp; (try with_reducible rfl)))) | (refine wpAnyH_take (i := 19) (oi := ?_) (v := ?_) ?_ (by kernel_rfl) (by kernel_rfl) (by kernel_rfl) ?_ (Or.inr ⟨?_, ?_⟩) (by assumption) ?_; rotate_left 2; (· (simp only [List.getElem?_toArray, List.getElem?_cons_succ, List.getElem?_cons_zero]; first | done | rfl)); (· exact (fun _ _ _ h => h)); (· rfl); (· rfl)) | fail
            (try simp only [Act.put, List.setIfInBounds_toArray, List.set_cons_zero, List.set_cons_succ])
            first | (refine wpAnyH_take (i := 20) (oi := ?_) (v := ?_) ?_ (by kernel_rfl) (by kernel_rfl) (by kernel_rfl) ?_ (Or.inl ⟨?_, ?_⟩) (by assumption) ?_; rotate_left 2; (· (simp only [List.getElem?_toArray, List.getElem?_cons_succ, List.getElem?_cons_zero]; first | done | rfl)); (· exact (fun _ _ _ h => h)); (· rfl); (· (intro w hSw; (try dsimp only at hSw); go_simp; (try with_reducible rfl)))) | (refine wpAnyH_take (i := 20) (oi := ?_) (v := ?_) ?_ (by kernel_rfl) (by kernel_rfl) (by kernel_rfl) ?_ (Or.inr ⟨?_, ?_⟩) (by assumption) ?_; rotate_left 2; (· (simp only [List.getElem?_toArray, List.getElem?_cons_succ, List.getElem?_cons_zero]; first | done | rfl)); (· exact (fun _ _ _ h => h)); (· rfl); (· rfl)) | fail
            (try simp only [Act.put, List.setIfInBounds_toArray, List.set_cons_zero, List.set_cons_succ])
            first | (refine wpAnyH_take (i := 21) (oi := ?_) (v := ?_) ?_ (by kernel_rfl) (by kernel_rfl) (by kernel_rfl) ?_ (Or.inl ⟨?_, ?_⟩) (by assumption) ?_; rotate_left 2; (· (simp only [List.getElem?_toArray, List.getElem?_cons_succ, List.getElem?_cons_zero]; first | done | rfl)); (· exact (fun _ _ _ h => h)); (· rfl); (· (intro w hSw; (try dsimp only at hSw); go_simp; (try with_reducible rfl)))) | (refine wpAnyH_take (i := 21) (oi := ?_) (v := ?_) ?_ (by kernel_rfl) (by kernel_rfl) (by kernel_rfl) ?_ (Or.inr ⟨?_, ?_⟩) (by assumption) ?_; rotate_left 2; (· (simp only [List.getElem?_toArray, List.getElem?_cons_succ, List.getElem?_cons_zero]; first | done | rfl)); (· exact (fun _ _ _ h => h)); (· rfl); (· rfl)) | fail
            (try simp only [Act.put, List.setIfInBounds_toArray, List.set_cons_zero, List.set_cons_succ])
            first | (refine wpAnyH_take (i := 22) (oi := ?_) (v := ?_) ?_ (by kernel_rfl) (by kernel_rfl) (by kernel_rfl) ?_ (Or.inl ⟨?_, ?_⟩) (by assumption) ?_; rotate_left 2; (· (simp only [List.getElem?_toArray, List.getElem?_cons_succ, List.getElem?_cons_zero]; first | done | rfl)); (· exact (fun _ _ _ h => h)); (· rfl); (· (intro w hSw; (try dsimp only at hSw); go_simp; (try with_reducible rfl)))) | (refine wpAnyH_take (i := 22) (oi := ?_) (v := ?_) ?_ (by kernel_rfl) (by kernel_rfl) (by kernel_rfl) ?_ (Or.inr ⟨?_, ?_⟩) (by assumption) ?_; rotate_left 2; (· (simp only [List.getElem?_toArray, List.getElem?_cons_succ, List.getElem?_cons_zero]; first | done | rfl)); (· exact (fun _ _ _ h => h)); (· rfl); (· rfl)) | fail
            (try simp only [Act.put, List.setIfInBounds_toArray, List.set_cons_zero, List.set_cons_succ])
            first | (refine wpAnyH_take (i := 23) (oi := ?_) (v := ?_) ?_ (by kernel_rfl) (by kernel_rfl) (by kernel_rfl) ?_ (Or.inl ⟨?_, ?_⟩) (by assumption) ?_; rotate_left 2; (· (simp only [List.getElem?_toArray, List.getElem?_cons_succ, List.getElem?_cons_zero]; first | done | rfl)); (· exact (fun _ _ _ h => h)); (· rfl); (· (intro w hSw; (try dsimp only at hSw); go_simp; (try with_reducible rfl)))) | (refine wpAnyH_take (i := 23) (oi := ?_) (v := ?_) ?_ (by kernel_rfl) (by kernel_rfl) (by kernel_rfl) ?_ (Or.inr ⟨?_, ?_⟩) (by assumption) ?_; rotate_left 2; (· (simp only [List.getElem?_toArray, List.getElem?_cons_succ, List.getElem?_cons_zero]; first | done | rfl)); (· exact (fun _ _ _ h => h)); (· rfl); (· rfl)) | fail
            (try simp only [Act.put, List.setIfInBounds_toArray, List.set_cons_zero, List.set_cons_succ])
            first | (refine wpAnyH_take (i := 24) (oi := ?_) (v := ?_) ?_ (by kernel_rfl) (by kernel_rfl) (by kernel_rfl) ?_ (Or.inl ⟨?_, ?_⟩) (by assumption) ?_; rotate_left 2; (· (simp only [List.getElem?_toArray, List.getElem?_cons_succ, List.getElem?_cons_zero]; first | done | rfl)); (· exact (fun _ _ _ h => h)); (· rfl); (· (intro w hSw; (try dsimp only at hSw); go_simp; (try with_reducible rfl)))) | (refine wpAnyH_take (i := 24) (oi := ?_) (v := ?_) ?_ (by kernel_rfl) (by kernel_rfl) (by kernel_rfl) ?_ (Or.inr ⟨?_, ?_⟩) (by assumption) ?_; rotate_left 2; (· (simp only [List.getElem?_toArray, List.getElem?_cons_succ, List.getElem?_cons_zero]; first | done | rfl)); (· exact (fun _ _ _ h => h)); (· rfl); (· rfl)) | fail
            (try simp only [Act.put, List.setIfInBounds_toArray, List.set_cons_zero, List.set_cons_succ])
            refine wpAnyH_ready (rs := [25]) (by kernel_rfl) (by simp) ?_
            refine AllReadyH.cons (o := ?_) ?_ (fun K hK => ?_) AllReadyH.nil
            rotate_left 1
            · (simp only [List.getElem?_toArray, List.getElem?_cons_succ, List.getElem?_cons_zero]; first | done | rfl)
            go_simp
            first | (refine hK.out _ _ ?_ (fun hq1 => ?_)) | ((first | (go_at_call 22; refine (HSM.out _).mono ?_; rintro e w6 ⟨rfl, hb6⟩)); refine hK.out _ _ ?_ (fun hq1 => ?_)) | ((first | (go_at_call 22; refine (HSM.out _).mono ?_; rintro e w6 ⟨rfl, hb6⟩)); go_wp2_with fail; refine hK.out _ _ ?_ (fun hq1 => ?_)) | fail
            · ((try dsimp only); (first | exact wS_below (bdrewN (Below.refl _ _) 1) HST3.out | assumption | exact wS_below (by assumption) (by assumption)))
            clear hK K
            (try simp only [Act.put, List.setIfInBounds_toArray, List.set_cons_zero, List.set_cons_succ])
            clear hq0
            first | (refine wpAnyH_take (i := 26) (oi := ?_) (v := ?_) ?_ (by kernel_rfl) (by kernel_rfl) (by kernel_rfl) ?_ (Or.inl ⟨?_, ?_⟩) (by assumption) ?_; rotate_left 2; (· (simp only [List.getElem?_toArray, List.getElem?_cons_succ, List.getElem?_cons_zero]; first | done | rfl)); (· exact (fun _ _ _ h => h)); (· rfl); (· (intro w hSw; (try dsimp only at hSw); go_simp; (try with_reducible rfl)))) | (refine wpAnyH_take (i := 26) (oi := ?_) (v := ?_) ?_ (by kernel_rfl) (by kernel_rfl) (by kernel_rfl) ?_ (Or.inr ⟨?_, ?_⟩) (by assumption) ?_; rotate_left 2; (· (simp only [List.getElem?_toArray, List.getElem?_cons_succ, List.getElem?_cons_zero]; first | done | rfl)); (· exact (fun _ _ _ h => h)); (· rfl); (· rfl)) | fail
            (try simp only [Act.put, List.setIfInBounds_toArray, List.set_cons_zero, List.set_cons_succ])
            first | (refine wpAnyH_take (i := 27) (oi := ?_) (v := ?_) ?_ (by kernel_rfl) (by kernel_rfl) (by kernel_rfl) ?_ (Or.inl ⟨?_, ?_⟩) (by assumption) ?_; rotate_left 2; (· (simp only [List.getElem?_toArray, List.getElem?_cons_succ, List.getElem?_cons_zero]; first | done | rfl)); (· exact (fun _ _ _ h => h)); (· rfl); (· (intro w hSw; (try dsimp only at hSw); go_simp; (try with_reducible rfl)))) | (refine wpAnyH_take (i := 27) (oi := ?_) (v := ?_) ?_ (by kernel_rfl) (by kernel_rfl) (by kernel_rfl) ?_ (Or.inr ⟨?_, ?_⟩) (by assumption) ?_; rotate_left 2; (· (simp only [List.getElem?_toArray, List.getElem?_cons_succ, List.getElem?_cons_zero]; first | done | rfl)); (· exact (fun _ _ _ h => h)); (· rfl); (· rfl)) | fail
            (try simp only [Act.put, List.setIfInBounds_toArray, List.set_cons_zero, List.set_cons_succ])
            refine wpAnyH_done (by kernel_rfl) ?_ _
            go_wp2_with fail
            exact ⟨⟨kk + 1, by omega, by go_num, by rw [HKS2.out]; go_num, btrans (bdrewN HWA.out 1) hb6⟩, by simp [intOf]; go_num⟩
    · obtain rfl : kk = nb.length := by omega
      rw [List.take_length]
      clear hlt hk
      have hw1 (w : World) (h : Attrs w b0 nb) : Calls Tryz.prog 25 #[ev [115] b0 nb.length cp, .slice none 0 0] w fun e w' => ∃ b2 cp2, e = .returned (ev [115] b2 nb.length cp2) ∧ Attrs w' b2 nb ∧ Below w.heap.size w w' := by
        have h1 := without_o [115] b0 cp nb none 0 [] w h (by omega) (Or.inl rfl) (by decide)
        rw [keep_nil] at h1
        exact h1.mono fun _ _ ⟨b2, cp2, q1, q2, _, q4⟩ => ⟨b2, cp2, q1, q2, q4⟩
      have hw2 (w : World) (h : Attrs w b1 (keepB zs nb)) (hz : NamesO w o zs) : Calls Tryz.prog 25 #[ev [115] b1 (keepB zs nb).length cp1, .slice o zs.length c] w fun e w' => ∃ b2 cp2, e = .returned (ev [115] b2 (keepB zs nb).length cp2) ∧ Attrs w' b2 (keepB zs nb) ∧ Below w.heap.size w w' := by
        have h1 := without_o [115] b1 cp1 (keepB zs nb) o c zs w h (by omega) hz (by omega)
        rw [keep_twice] at h1
        exact h1.mono fun _ _ ⟨b2, cp2, q1, q2, _, q4⟩ => ⟨b2, cp2, q1, q2, q4⟩
      have he1 (w : World) (b2 : Option Addr) (cp2 : Nat) (h1 : Attrs w b2 nb) (h2 : Attrs w b0 nb) := esame_any [115] [115] b2 b0 cp2 cp nb nb w h1 h2 (by omega) (by omega) HNUM.out HNUM.out
      have he2 (w : World) (b2 : Option Addr) (cp2 : Nat) (h1 : Attrs w b2 (keepB zs nb)) (h2 : Attrs w b1 (keepB zs nb)) := esame_any [115] [115] b2 b1 cp2 cp1 (keepB zs nb) (keepB zs nb) w h1 h2 (by omega) (by omega) HKN.out HKN.out
      rw [sameL_self] at he1 he2
      have HS := Lib.hid hS; have HW1 := Lib.hid hw1; have HW2 := Lib.hid hw2; have HE1 := Lib.hid he1; have HE2 := Lib.hid he2
      clear hS hw1 hw2 he1 he2 HST HKN
      generalize keepB zs nb = kb at *
      go_wp2_with fail
      refine wp_region_held_drew (S := (fun w' => w'.cell? ⟨be, 0, none⟩ = some (.string ⟨#[115]⟩) ∧ w'.cell? ⟨be, 1, none⟩ = some (.slice b0 nb.length cp) ∧ w'.cell? ⟨bf, 0, none⟩ = some (.string ⟨#[115]⟩) ∧ w'.cell? ⟨bf, 1, none⟩ = some (.slice b1 kb.length cp1) ∧ Attrs w' b0 nb ∧ Attrs w' b1 kb ∧ NamesO w' o zs ∧ Below w.heap.size w w' ∧ be < w'.heap.size ∧ bf < w'.heap.size)) (by kernel_rfl) ?_ (fun hq0 => ?_)
      · ((try dsimp only); (first | exact vS_below (bdrewN (Below.refl _ _) 1) HS.out | assumption | exact vS_below (by assumption) (by assumption)))
      first | (refine wpAnyH_take (i := 0) (oi := ?_) (v := ?_) ?_ (by kernel_rfl) (by kernel_rfl) (by kernel_rfl) ?_ (Or.inl ⟨?_, ?_⟩) (by assumption) ?_; rotate_left 2; (· (simp only [List.getElem?_toArray, List.getElem?_cons_zero]; first | done | rfl)); (· exact (fun _ _ _ h => h)); (· rfl); (· (intro w hSw; (try dsimp only at hSw); go_simp; (try with_reducible rfl)))) | (refine wpAnyH_take (i := 0) (oi := ?_) (v := ?_) ?_ (by kernel_rfl) (by kernel_rfl) (by kernel_rfl) ?_ (Or.inr ⟨?_, ?_⟩) (by assumption) ?_; rotate_left 2; (· (simp only [List.getElem?_toArray, List.getElem?_cons_zero]; first | done | rfl)); (· exact (fun _ _ _ h => h)); (· rfl); (· rfl)) | fail
      (try simp only [Act.put, List.setIfInBounds_toArray, List.set_cons_zero, List.set_cons_succ])
      first | (refine wpAnyH_take (i := 1) (oi := ?_) (v := ?_) ?_ (by kernel_rfl) (by kernel_rfl) (by kernel_rfl) ?_ (Or.inl ⟨?_, ?_⟩) (by assumption) ?_; rotate_left 2; (· (simp only [List.getElem?_toArray, List.getElem?_cons_succ, List.getElem?_cons_zero]; first | done | rfl)); (· exact (fun _ _ _ h => h)); (· rfl); (· (intro w hSw; (try dsimp only at hSw); go_simp; (try with_reducible rfl)))) | (refine wpAnyH_take (i := 1) (oi := ?_) (v := ?_) ?_ (by kernel_rfl) (by kernel_rfl) (by kernel_rfl) ?_ (Or.inr ⟨?_, ?_⟩) (by assumption) ?_; rotate_left 2; (· (simp only [List.getElem?_toArray, List.getElem?_cons_succ, List.getElem?_cons_zero]; first | done | rfl)); (· exact (fun _ _ _ h => h)); (· rfl); (· rfl)) | fail
      (try simp only [Act.put, List.setIfInBounds_toArray, List.set_cons_zero, List.set_cons_succ])
      first | (refine wpAnyH_take (i := 2) (oi := ?_) (v := ?_) ?_ (by kernel_rfl) (by kernel_rfl) (by kernel_rfl) ?_ (Or.inl ⟨?_, ?_⟩) (by assumption) ?_; rotate_left 2; (· (simp only [List.getElem?_toArray, List.getElem?_cons_succ, List.getElem?_cons_zero]; first | done | rfl)); (· exact (fun _ _ _ h => h)); (· rfl); (· (intro w hSw; (try dsimp only at hSw); go_simp; (try with_reducible rfl)))) | (refine wpAnyH_take (i := 2) (oi := ?_) (v := ?_) ?_ (by kernel_rfl) (by kernel_rfl) (by kernel_rfl) ?_ (Or.inr ⟨?_, ?_⟩) (by assumption) ?_; rotate_left 2; (· (simp only [List.getElem?_toArray, List.getElem?_cons_succ, List.getElem?_cons_zero]; first | done | rfl)); (· exact (fun _ _ _ h => h)); (· rfl); (· rfl)) | fail
      (try simp only [Act.put, List.setIfInBounds_toArray, List.set_cons_zero, List.set_cons_succ])
      first | (refine wpAnyH_take (i := 3) (oi := ?_) (v := ?_) ?_ (by kernel_rfl) (by kernel_rfl) (by kernel_rfl) ?_ (Or.inl ⟨?_, ?_⟩) (by assumption) ?_; rotate_left 2; (· (simp only [List.getElem?_toArray, List.getElem?_cons_succ, List.getElem?_cons_zero]; first | done | rfl)); (· exact (fun _ _ _ h => h)); (· rfl); (· (intro w hSw; (try dsimp only at hSw); go_simp; (try with_reducible rfl)))) | (refine wpAnyH_take (i := 3) (oi := ?_) (v := ?_) ?_ (by kernel_rfl) (by kernel_rfl) (by kernel_rfl) ?_ (Or.inr ⟨?_, ?_⟩) (by assumption) ?_; rotate_left 2; (· (simp only [List.getElem?_toArray, List.getElem?_cons_succ, List.getElem?_cons_zero]; first | done | rfl)); (· exact (fun _ _ _ h => h)); (· rfl); (· rfl)) | fail
      (try simp only [Act.put, List.setIfInBounds_toArray, List.set_cons_zero, List.set_cons_succ])
      first | (refine wpAnyH_take (i := 4) (oi := ?_) (v := ?_) ?_ (by kernel_rfl) (by kernel_rfl) (by kernel_rfl) ?_ (Or.inl ⟨?_, ?_⟩) (by assumption) ?_; rotate_left 2; (· (simp only [List.getElem?_toArray, List.getElem?_cons_succ, List.getElem?_cons_zero]; first | done | rfl)); (· exact (fun _ _ _ h => h)); (· rfl); (· (intro w hSw; (try dsimp only at hSw); go_simp; (try with_reducible rfl)))) | (refine wpAnyH_take (i := 4) (oi := ?_) (v := ?_) ?_ (by kernel_rfl) (by kernel_rfl) (by kernel_rfl) ?_ (Or.inr ⟨?_, ?_⟩) (by assumption) ?_; rotate_left 2; (· (simp only [List.getElem?_toArray, List.getElem?_cons_succ, List.getElem?_cons_zero]; first | done | rfl)); (· exact (fun _ _ _ h => h)); (· rfl); (· rfl)) | fail
      (try simp only [Act.put, List.setIfInBounds_toArray, List.set_cons_zero, List.set_cons_succ])
      first | (refine wpAnyH_take (i := 5) (oi := ?_) (v := ?_) ?_ (by kernel_rfl) (by kernel_rfl) (by kernel_rfl) ?_ (Or.inl ⟨?_, ?_⟩) (by assumption) ?_; rotate_left 2; (· (simp only [List.getElem?_toArray, List.getElem?_cons_succ, List.getElem?_cons_zero]; first | done | rfl)); (· exact (fun _ _ _ h => h)); (· rfl); (· (intro w hSw; (try dsimp only at hSw); go_simp; (try with_reducible rfl)))) | (refine wpAnyH_take (i := 5) (oi := ?_) (v := ?_) ?_ (by kernel_rfl) (by kernel_rfl) (by kernel_rfl) ?_ (Or.inr ⟨?_, ?_⟩) (by assumption) ?_; rotate_left 2; (· (simp only [List.getElem?_toArray, List.getElem?_cons_succ, List.getElem?_cons_zero]; first | done | rfl)); (· exact (fun _ _ _ h => h)); (· rfl); (· rfl)) | fail
      (try simp only [Act.put, List.setIfInBounds_toArray, List.set_cons_zero, List.set_cons_succ])
      first | (refine wpAnyH_take (i := 6) (oi := ?_) (v := ?_) ?_ (by kernel_rfl) (by kernel_rfl) (by kernel_rfl) ?_ (Or.inl ⟨?_, ?_⟩) (by assumption) ?_; rotate_left 2; (· (simp only [List.getElem?_toArray, List.getElem?_cons_succ, List.getElem?_cons_zero]; first | done | rfl)); (· exact (fun _ _ _ h => h)); (· rfl); (· (intro w hSw; (try dsimp only at hSw); go_simp; (try with_reducible rfl)))) | (refine wpAnyH_take (i := 6) (oi := ?_) (v := ?_) ?_ (by kernel_rfl) (by kernel_rfl) (by kernel_rfl) ?_ (Or.inr ⟨?_, ?_⟩) (by assumption) ?_; rotate_left 2; (· (simp only [List.getElem?_toArray, List.getElem?_cons_succ, List.getElem?_cons_zero]; first | done | rfl)); (· exact (fun _ _ _ h => h)); (· rfl); (· rfl)) | fail
      (try simp only [Act.put, List.setIfInBounds_toArray, List.set_cons_zero, List.set_cons_succ])
      first | (refine wpAnyH_take (i := 7) (oi := ?_) (v := ?_) ?_ (by kernel_rfl) (by kernel_rfl) (by kernel_rfl) ?_ (Or.inl ⟨?_, ?_⟩) (by assumption) ?_; rotate_left 2; (· (simp only [List.getElem?_toArray, List.getElem?_cons_succ, List.getElem?_cons_zero]; first | done | rfl)); (· exact (fun _ _ _ h => h)); (· rfl); (· (intro w hSw; (try dsimp only at hSw); go_simp; (try with_reducible rfl)))) | (refine wpAnyH_take (i := 7) (oi := ?_) (v := ?_) ?_ (by kernel_rfl) (by kernel_rfl) (by kernel_rfl) ?_ (Or.inr ⟨?_, ?_⟩) (by assumption) ?_; rotate_left 2; (· (simp only [List.getElem?_toArray, List.getElem?_cons_succ, List.getElem?_cons_zero]; first | done | rfl)); (· exact (fun _ _ _ h => h)); (· rfl); (· rfl)) | fail
      (try simp only [Act.put, List.setIfInBounds_toArray, List.set_cons_zero, List.set_cons_succ])
      first | (refine wpAnyH_take (i := 8) (oi := ?_) (v := ?_) ?_ (by kernel_rfl) (by kernel_rfl) (by kernel_rfl) ?_ (Or.inl ⟨?_, ?_⟩) (by assumption) ?_; rotate_left 2; (· (simp only [List.getElem?_toArray, List.getElem?_cons_succ, List.getElem?_cons_zero]; first | done | rfl)); (· exact (fun _ _ _ h => h)); (· rfl); (· (intro w hSw; (try dsimp only at hSw); go_simp; (try with_reducible rfl)))) | (refine wpAnyH_take (i := 8) (oi := ?_) (v := ?_) ?_ (by kernel_rfl) (by kernel_rfl) (by kernel_rfl) ?_ (Or.inr ⟨?_, ?_⟩) (by assumption) ?_; rotate_left 2; (· (simp only [List.getElem?_toArray, List.getElem?_cons_succ, List.getElem?_cons_zero]; first | done | rfl)); (· exact (fun _ _ _ h => h)); (· rfl); (· rfl)) | fail
      (try simp only [Act.put, List.setIfInBounds_toArray, List.set_cons_zero, List.set_cons_succ])
      first | (refine wpAnyH_take (i := 9) (oi := ?_) (v := ?_) ?_ (by kernel_rfl) (by kernel_rfl) (by kernel_rfl) ?_ (Or.inl ⟨?_, ?_⟩) (by assumption) ?_; rotate_left 2; (· (simp only [List.getElem?_toArray, List.getElem?_cons_succ, List.getElem?_cons_zero]; first | done | rfl)); (· exact (fun _ _ _ h => h)); (· rfl); (· (intro w hSw; (try dsimp only at hSw); go_simp; (try with_reducible rfl)))) | (refine wpAnyH_take (i := 9) (oi := ?_) (v := ?_) ?_ (by kernel_rfl) (by kernel_rfl) (by kernel_rfl) ?_ (Or.inr ⟨?_, ?_⟩) (by assumption) ?_; rotate_left 2; (· (simp only [List.getElem?_toArray, List.getElem?_cons_succ, List.getElem?_cons_zero]; first | done | rfl)); (· exact (fun _ _ _ h => h)); (· rfl); (· rfl)) | fail
      (try simp only [Act.put, List.setIfInBounds_toArray, List.set_cons_zero, List.set_cons_succ])
      first | (refine wpAnyH_take (i := 10) (oi := ?_) (v := ?_) ?_ (by kernel_rfl) (by kernel_rfl) (by kernel_rfl) ?_ (Or.inl ⟨?_, ?_⟩) (by assumption) ?_; rotate_left 2; (· (simp only [List.getElem?_toArray, List.getElem?_cons_succ, List.getElem?_cons_zero]; first | done | rfl)); (· exact (fun _ _ _ h => h)); (· rfl); (· (intro w hSw; (try dsimp only at hSw); go_simp; (try with_reducible rfl)))) | (refine wpAnyH_take (i := 10) (oi := ?_) (v := ?_) ?_ (by kernel_rfl) (by kernel_rfl) (by kernel_rfl) ?_ (Or.inr ⟨?_, ?_⟩) (by assumption) ?_; rotate_left 2; (· (simp only [List.getElem?_toArray, List.getElem?_cons_succ, List.getElem?_cons_zero]; first | done | rfl)); (· exact (fun _ _ _ h => h)); (· rfl); (· rfl)) | fail
      (try simp only [Act.put, List.setIfInBounds_toArray, List.set_cons_zero, List.set_cons_succ])
      first | (refine wpAnyH_take (i := 11) (oi := ?_) (v := ?_) ?_ (by kernel_rfl) (by kernel_rfl) (by kernel_rfl) ?_ (Or.inl ⟨?_, ?_⟩) (by assumption) ?_; rotate_left 2; (· (simp only [List.getElem?_toArray, List.getElem?_cons_succ, List.getElem?_cons_zero]; first | done | rfl)); (· exact (fun _ _ _ h => h)); (· rfl); (· (intro w hSw; (try dsimp only at hSw); go_simp; (try with_reducible rfl)))) | (refine wpAnyH_take (i := 11) (oi := ?_) (v := ?_) ?_ (by kernel_rfl) (by kernel_rfl) (by kernel_rfl) ?_ (Or.inr ⟨?_, ?_⟩) (by assumption) ?_; rotate_left 2; (· (simp only [List.getElem?_toArray, List.getElem?_cons_succ, List.getElem?_cons_zero]; first | done | rfl)); (· exact (fun _ _ _ h => h)); (· rfl); (· rfl)) | fail
      (try simp only [Act.put, List.setIfInBounds_toArray, List.set_cons_zero, List.set_cons_succ])
      first | (refine wpAnyH_take (i := 13) (oi := ?_) (v := ?_) ?_ (by kernel_rfl) (by kernel_rfl) (by kernel_rfl) ?_ (Or.inl ⟨?_, ?_⟩) (by assumption) ?_; rotate_left 2; (· (simp only [List.getElem?_toArray, List.getElem?_cons_succ, List.getElem?_cons_zero]; first | done | rfl)); (· exact (fun _ _ _ h => h)); (· rfl); (· (intro w hSw; (try dsimp only at hSw); go_simp; (try with_reducible rfl)))) | (refine wpAnyH_take (i := 13) (oi := ?_) (v := ?_) ?_ (by kernel_rfl) (by kernel_rfl) (by kernel_rfl) ?_ (Or.inr ⟨?_, ?_⟩) (by assumption) ?_; rotate_left 2; (· (simp only [List.getElem?_toArray, List.getElem?_cons_succ, List.getElem?_cons_zero]; first | done | rfl)); (· exact (fun _ _ _ h => h)); (· rfl); (· rfl)) | fail
      (try simp only [Act.put, List.setIfInBounds_toArray, List.set_cons_zero, List.set_cons_succ])
      refine wpAnyH_ready (rs := [12]) (by kernel_rfl) (by simp) ?_
      refine AllReadyH.cons (o := ?_) ?_ (fun K hK => ?_) AllReadyH.nil
      rotate_left 1
      · (simp only [List.getElem?_toArray, List.getElem?_cons_succ, List.getElem?_cons_zero]; first | done | rfl)
      go_simp
      first | (refine hK.out _ _ ?_ (fun hq1 => ?_)) | ((first | (go_at_call 25; ((with_reducible refine (HW1.out _ (vS_nb (by assumption))).mono ?_); rintro e w6 ⟨b2, cp2, rfl, hat6, hb6⟩)) | (go_at_call 25; ((with_reducible refine (HW2.out _ (vS_kb (by assumption)) (vS_zs (by assumption))).mono ?_); rintro e w6 ⟨b2, cp2, rfl, hat6, hb6⟩)) | (go_at_call 21; ((with_reducible refine (HE1.out _ _ _ hat6 (vS_nb (by assumption))).mono ?_); rintro e w7 ⟨rfl, hb7⟩)) | (go_at_call 21; ((with_reducible refine (HE2.out _ _ _ hat6 (vS_kb (by assumption))).mono ?_); rintro e w7 ⟨rfl, hb7⟩))); refine hK.out _ _ ?_ (fun hq1 => ?_)) | ((first | (go_at_call 25; ((with_reducible refine (HW1.out _ (vS_nb (by assumption))).mono ?_); rintro e w6 ⟨b2, cp2, rfl, hat6, hb6⟩)) | (go_at_call 25; ((with_reducible refine (HW2.out _ (vS_kb (by assumption)) (vS_zs (by assumption))).mono ?_); rintro e w6 ⟨b2, cp2, rfl, hat6, hb6⟩)) | (go_at_call 21; ((with_reducible refine (HE1.out _ _ _ hat6 (vS_nb (by assumption))).mono ?_); rintro e w7 ⟨rfl, hb7⟩)) | (go_at_call 21; ((with_reducible refine (HE2.out _ _ _ hat6 (vS_kb (by assumption))).mono ?_); rintro e w7 ⟨rfl, hb7⟩))); go_wp2_with fail; refine hK.out _ _ ?_ (fun hq1 => ?_)) | fail
      · ((try dsimp only); (first | exact vS_below (bdrewN (Below.refl _ _) 1) HS.out | assumption | exact vS_below (by assumption) (by assumption)))
      clear hK K
      (try simp only [Act.put, List.setIfInBounds_toArray, List.set_cons_zero, List.set_cons_succ])
      clear hq0
      refine wpAnyH_ready (rs := [14]) (by kernel_rfl) (by simp) ?_
      refine AllReadyH.cons (o := ?_) ?_ (fun K hK => ?_) AllReadyH.nil
      rotate_left 1
      · (simp only [List.getElem?_toArray, List.getElem?_cons_succ, List.getElem?_cons_zero]; first | done | rfl)
      go_simp
      first | (refine hK.out _ _ ?_ (fun hq2 => ?_)) | ((first | (go_at_call 25; ((with_reducible refine (HW1.out _ (vS_nb (by assumption))).mono ?_); rintro e w6 ⟨b2, cp2, rfl, hat6, hb6⟩)) | (go_at_call 25; ((with_reducible refine (HW2.out _ (vS_kb (by assumption)) (vS_zs (by assumption))).mono ?_); rintro e w6 ⟨b2, cp2, rfl, hat6, hb6⟩)) | (go_at_call 21; ((with_reducible refine (HE1.out _ _ _ hat6 (vS_nb (by assumption))).mono ?_); rintro e w7 ⟨rfl, hb7⟩)) | (go_at_call 21; ((with_reducible refine (HE2.out _ _ _ hat6 (vS_kb (by assumption))).mono ?_); rintro e w7 ⟨rfl, hb7⟩))); refine hK.out _ _ ?_ (fun hq2 => ?_)) | ((first | (go_at_call 25; ((with_reducible refine (HW1.out _ (vS_nb (by assumption))).mono ?_); rintro e w6 ⟨b2, cp2, rfl, hat6, hb6⟩)) | (go_at_call 25; ((with_reducible refine (HW2.out _ (vS_kb (by assumption)) (vS_zs (by assumption))).mono ?_); rintro e w6 ⟨b2, cp2, rfl, hat6, hb6⟩)) | (go_at_call 21; ((with_reducible refine (HE1.out _ _ _ hat6 (vS_nb (by assumption))).mono ?_); rintro e w7 ⟨rfl, hb7⟩)) | (go_at_call 21; ((with_reducible refine (HE2.out _ _ _ hat6 (vS_kb (by assumption))).mono ?_); rintro e w7 ⟨rfl, hb7⟩))); go_wp2_with fail; refine hK.out _ _ ?_ (fun hq2 => ?_)) | fail
      · ((try dsimp only); (first | exact vS_below (bdrewN (Below.refl _ _) 1) HS.out | assumption | exact vS_below (by assumption) (by assumption)))
      clear hK K
      (try simp only [Act.put, List.setIfInBounds_toArray, List.set_cons_zero, List.set_cons_succ])
      clear hq1
      first | (refine wpAnyH_take (i := 15) (oi := ?_) (v := ?_) ?_ (by kernel_rfl) (by kernel_rfl) (by kernel_rfl) ?_ (Or.inl ⟨?_, ?_⟩) (by assumption) ?_; rotate_left 2; (· (simp only [List.getElem?_toArray, List.getElem?_cons_succ, List.getElem?_cons_zero]; first | done | rfl)); (· exact (fun _ _ _ h => h)); (· rfl); (· (intro w hSw; (try dsimp only at hSw); go_simp; (try with_reducible rfl)))) | (refine wpAnyH_take (i := 15) (oi := ?_) (v := ?_) ?_ (by kernel_rfl) (by kernel_rfl) (by kernel_rfl) ?_ (Or.inr ⟨?_, ?_⟩) (by assumption) ?_; rotate_left 2; (· (simp only [List.getElem?_toArray, List.getElem?_cons_succ, List.getElem?_cons_zero]; first | done | rfl)); (· exact (fun _ _ _ h => h)); (· rfl); (· rfl)) | fail
      (try simp only [Act.put, List.setIfInBounds_toArray, List.set_cons_zero, List.set_cons_succ])
      first | (refine wpAnyH_take (i := 16) (oi := ?_) (v := ?_) ?_ (by kernel_rfl) (by kernel_rfl) (by kernel_rfl) ?_ (Or.inl ⟨?_, ?_⟩) (by assumption) ?_; rotate_left 2; (· (simp only [List.getElem?_toArray, List.getElem?_cons_succ, List.getElem?_cons_zero]; first | done | rfl)); (· exact (fun _ _ _ h => h)); (· rfl); (· (intro w hSw; (try dsimp only at hSw); go_simp; (try with_reducible rfl)))) | (refine wpAnyH_take (i := 16) (oi := ?_) (v := ?_) ?_ (by kernel_rfl) (by kernel_rfl) (by kernel_rfl) ?_ (Or.inr ⟨?_, ?_⟩) (by assumption) ?_; rotate_left 2; (· (simp only [List.getElem?_toArray, List.getElem?_cons_succ, List.getElem?_cons_zero]; first | done | rfl)); (· exact (fun _ _ _ h => h)); (· rfl); (· rfl)) | fail
      (try simp only [Act.put, List.setIfInBounds_toArray, List.set_cons_zero, List.set_cons_succ])
      first | (refine wpAnyH_take (i := 17) (oi := ?_) (v := ?_) ?_ (by kernel_rfl) (by kernel_rfl) (by kernel_rfl) ?_ (Or.inl ⟨?_, ?_⟩) (by assumption) ?_; rotate_left 2; (· (simp only [List.getElem?_toArray, List.getElem?_cons_succ, List.getElem?_cons_zero]; first | done | rfl)); (· exact (fun _ _ _ h => h)); (· rfl); (· (intro w hSw; (try dsimp only at hSw); go_simp; (try with_reducible rfl)))) | (refine wpAnyH_take (i := 17) (oi := ?_) (v := ?_) ?_ (by kernel_rfl) (by kernel_rfl) (by kernel_rfl) ?_ (Or.inr ⟨?_, ?_⟩) (by assumption) ?_; rotate_left 2; (· (simp only [List.getElem?_toArray, List.getElem?_cons_succ, List.getElem?_cons_zero]; first | done | rfl)); (· exact (fun _ _ _ h => h)); (· rfl); (· rfl)) | fail
      (try simp only [Act.put, List.setIfInBounds_toArray, List.set_cons_zero, List.set_cons_succ])
      first | (refine wpAnyH_take (i := 18) (oi := ?_) (v := ?_) ?_ (by kernel_rfl) (by kernel_rfl) (by kernel_rfl) ?_ (Or.inl ⟨?_, ?_⟩) (by assumption) ?_; rotate_left 2; (· (simp only [List.getElem?_toArray, List.getElem?_cons_succ, List.getElem?_cons_zero]; first | done | rfl)); (· exact (fun _ _ _ h => h)); (· rfl); (· (intro w hSw; (try dsimp only at hSw); go_simp; (try with_reducible rfl)))) | (refine wpAnyH_take (i := 18) (oi := ?_) (v := ?_) ?_ (by kernel_rfl) (by kernel_rfl) (by kernel_rfl) ?_ (Or.inr ⟨?_, ?_⟩) (by assumption) ?_; rotate_left 2; (· (simp only [List.getElem?_toArray, List.getElem?_cons_succ, List.getElem?_cons_zero]; first | done | rfl)); (· exact (fun _ _ _ h => h)); (· rfl); (· rfl)) | fail
      (try simp only [Act.put, List.setIfInBounds_toArray, List.set_cons_zero, List.set_cons_succ])
      first | (refine wpAnyH_take (i := 20) (oi := ?_) (v := ?_) ?_ (by kernel_rfl) (by kernel_rfl) (by kernel_rfl) ?_ (Or.inl ⟨?_, ?_⟩) (by assumption) ?_; rotate_left 2; (· (simp only [List.getElem?_toArray, List.getElem?_cons_succ, List.getElem?_cons_zero]; first | done | rfl)); (· exact (fun _ _ _ h => h)); (· rfl); (· (intro w hSw; (try dsimp only at hSw); go_simp; (try with_reducible rfl)))) | (refine wpAnyH_take (i := 20) (oi := ?_) (v := ?_) ?_ (by kernel_rfl) (by kernel_rfl) (by kernel_rfl) ?_ (Or.inr ⟨?_, ?_⟩) (by assumption) ?_; rotate_left 2; (· (simp only [List.getElem?_toArray, List.getElem?_cons_succ, List.getElem?_cons_zero]; first | done | rfl)); (· exact (fun _ _ _ h => h)); (· rfl); (· rfl)) | fail
      (try simp only [Act.put, List.setIfInBounds_toArray, List.set_cons_zero, List.set_cons_succ])
      refine wpAnyH_ready (rs := [19]) (by kernel_rfl) (by simp) ?_
      refine AllReadyH.cons (o := ?_) ?_ (fun K hK => ?_) AllReadyH.nil
      rotate_left 1
      · (simp only [List.getElem?_toArray, List.getElem?_cons_succ, List.getElem?_cons_zero]; first | done | rfl)
      go_simp
      first | (refine hK.out _ _ ?_ (fun hq3 => ?_)) | ((first | (go_at_call 25; ((with_reducible refine (HW1.out _ (vS_nb (by assumption))).mono ?_); rintro e w6 ⟨b2, cp2, rfl, hat6, hb6⟩)) | (go_at_call 25; ((with_reducible refine (HW2.out _ (vS_kb (by assumption)) (vS_zs (by assumption))).mono ?_); rintro e w6 ⟨b2, cp2, rfl, hat6, hb6⟩)) | (go_at_call 21; ((with_reducible refine (HE1.out _ _ _ hat6 (vS_nb (by assumption))).mono ?_); rintro e w7 ⟨rfl, hb7⟩)) | (go_at_call 21; ((with_reducible refine (HE2.out _ _ _ hat6 (vS_kb (by assumption))).mono ?_); rintro e w7 ⟨rfl, hb7⟩))); refine hK.out _ _ ?_ (fun hq3 => ?_)) | ((first | (go_at_call 25; ((with_reducible refine (HW1.out _ (vS_nb (by assumption))).mono ?_); rintro e w6 ⟨b2, cp2, rfl, hat6, hb6⟩)) | (go_at_call 25; ((with_reducible refine (HW2.out _ (vS_kb (by assumption)) (vS_zs (by assumption))).mono ?_); rintro e w6 ⟨b2, cp2, rfl, hat6, hb6⟩)) | (go_at_call 21; ((with_reducible refine (HE1.out _ _ _ hat6 (vS_nb (by assumption))).mono ?_); rintro e w7 ⟨rfl, hb7⟩)) | (go_at_call 21; ((with_reducible refine (HE2.out _ _ _ hat6 (vS_kb (by assumption))).mono ?_); rintro e w7 ⟨rfl, hb7⟩))); go_wp2_with fail; refine hK.out _ _ ?_ (fun hq3 => ?_)) | fail
      · ((try dsimp only); (first | exact vS_below (bdrewN (Below.refl _ _) 1) HS.out | assumption | exact vS_below (by assumption) (by assumption)))
      clear hK K
      (try simp only [Act.put, List.setIfInBounds_toArray, List.set_cons_zero, List.set_cons_succ])
      clear hq2
      refine wpAnyH_ready (rs := [21]) (by kernel_rfl) (by simp) ?_
      refine AllReadyH.cons (o := ?_) ?_ (fun K hK => ?_) AllReadyH.nil
      rotate_left 1
      · (simp only [List.getElem?_toArray, List.getElem?_cons_succ, List.getElem?_cons_zero]; first | done | rfl)
      go_simp
      first | (refine hK.out _ _ ?_ (fun hq4 => ?_)) | ((first | (go_at_call 25; ((with_reducible refine (HW1.out _ (vS_nb (by assumption))).mono ?_); rintro e w6 ⟨b2, cp2, rfl, hat6, hb6⟩)) | (go_at_call 25; ((with_reducible refine (HW2.out _ (vS_kb (by assumption)) (vS_zs (by assumption))).mono ?_); rintro e w6 ⟨b2, cp2, rfl, hat6, hb6⟩)) | (go_at_call 21; ((with_reducible refine (HE1.out _ _ _ hat6 (vS_nb (by assumption))).mono ?_); rintro e w7 ⟨rfl, hb7⟩)) | (go_at_call 21; ((with_reducible refine (HE2.out _ _ _ hat6 (vS_kb (by assumption))).mono ?_); rintro e w7 ⟨rfl, hb7⟩))); refine hK.out _ _ ?_ (fun hq4 => ?_)) | ((first | (go_at_call 25; ((with_reducible refine (HW1.out _ (vS_nb (by assumption))).mono ?_); rintro e w6 ⟨b2, cp2, rfl, hat6, hb6⟩)) | (go_at_call 25; ((with_reducible refine (HW2.out _ (vS_kb (by assumption)) (vS_zs (by assumption))).mono ?_); rintro e w6 ⟨b2, cp2, rfl, hat6, hb6⟩)) | (go_at_call 21; ((with_reducible refine (HE1.out _ _ _ hat6 (vS_nb (by assumption))).mono ?_); rintro e w7 ⟨rfl, hb7⟩)) | (go_at_call 21; ((with_reducible refine (HE2.out _ _ _ hat6 (vS_kb (by assumption))).mono ?_); rintro e w7 ⟨rfl, hb7⟩))); go_wp2_with fail; refine hK.out _ _ ?_ (fun hq4 => ?_)) | fail
      · ((try dsimp only); (first | exact vS_below (bdrewN (Below.refl _ _) 1) HS.out | assumption | exact vS_below (by assumption) (by assumption)))
      clear hK K
      (try simp only [Act.put, List.setIfInBounds_toArray, List.set_cons_zero, List.set_cons_succ])
      clear hq3
      first | (refine wpAnyH_take (i := 22) (oi := ?_) (v := ?_) ?_ (by kernel_rfl) (by kernel_rfl) (by kernel_rfl) ?_ (Or.inl ⟨?_, ?_⟩) (by assumption) ?_; rotate_left 2; (· (simp only [List.getElem?_toArray, List.getElem?_cons_succ, List.getElem?_cons_zero]; first | done | rfl)); (· exact (fun _ _ _ h => h)); (· rfl); (· (intro w hSw; (try dsimp only at hSw); go_simp; (try with_reducible rfl)))) | (refine wpAnyH_take (i := 22) (oi := ?_) (v := ?_) ?_ (by kernel_rfl) (by kernel_rfl) (by kernel_rfl) ?_ (Or.inr ⟨?_, ?_⟩) (by assumption) ?_; rotate_left 2; (· (simp only [List.getElem?_toArray, List.getElem?_cons_succ, List.getElem?_cons_zero]; first | done | rfl)); (· exact (fun _ _ _ h => h)); (· rfl); (· rfl)) | fail
      (try simp only [Act.put, List.setIfInBounds_toArray, List.set_cons_zero, List.set_cons_succ])
      first | (refine wpAnyH_take (i := 23) (oi := ?_) (v := ?_) ?_ (by kernel_rfl) (by kernel_rfl) (by kernel_rfl) ?_ (Or.inl ⟨?_, ?_⟩) (by assumption) ?_; rotate_left 2; (· (simp only [List.getElem?_toArray, List.getElem?_cons_succ, List.getElem?_cons_zero]; first | done | rfl)); (· exact (fun _ _ _ h => h)); (· rfl); (· (intro w hSw; (try dsimp only at hSw); go_simp; (try with_reducible rfl)))) | (refine wpAnyH_take (i := 23) (oi := ?_) (v := ?_) ?_ (by kernel_rfl) (by kernel_rfl) (by kernel_rfl) ?_ (Or.inr ⟨?_, ?_⟩) (by assumption) ?_; rotate_left 2; (· (simp only [List.getElem?_toArray, List.getElem?_cons_succ, List.getElem?_cons_zero]; first | done | rfl)); (· exact (fun _ _ _ h => h)); (· rfl); (· rfl)) | fail
      (try simp only [Act.put, List.setIfInBounds_toArray, List.set_cons_zero, List.set_cons_succ])
      refine wpAnyH_done (by kernel_rfl) ?_ _
      go_wp2_with fail
      go_ret
      exact ⟨rfl, vS_own (by assumption)⟩
end Go.Proofs.YtdggofleokjmcaaGreatDoor.Val
