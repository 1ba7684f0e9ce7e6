/- THE WALK OF the law ScopeUps: going up tells each scope that it is below, the nearest first, and stops where it is told. -/
import Derived.Test.YtpmgooefkkbpbaaUpAll
import Derived.Test.YtpmgooefkkbpbaaScParts
namespace Go.Proofs.Ytpmgooefkkbpbaa.Sc
open Go.RowKit Go.Shelf
attribute [local go_sem] Oper.semAt_some
/-- the five boxes of the law's own -/
structure Five (B : Nat) (W : World) (s : List UInt8) (stop : Int) (k : Nat) (last : List UInt8) : Prop where
  c0 : W.cell? ⟨B, 0, none⟩ = some (.string ⟨s.toArray⟩)
  c1 : W.cell? ⟨B + 1, 0, none⟩ = some (.int .i64 stop)
  c2 : W.cell? ⟨B + 2, 0, none⟩ = some (.bool false)
  f2 : W.frozen? ⟨B + 2, 0, none⟩ = false
  c3 : W.cell? ⟨B + 3, 0, none⟩ = some (.int .i64 (k : Int))
  f3 : W.frozen? ⟨B + 3, 0, none⟩ = false
  c4 : W.cell? ⟨B + 4, 0, none⟩ = some (.string ⟨last.toArray⟩)
  f4 : W.frozen? ⟨B + 4, 0, none⟩ = false
theorem far (W : World) (a b : Nat) (v : Value) (h : b ≠ a) : (W.setCell ⟨a, 0, none⟩ v).cell? ⟨b, 0, none⟩ = W.cell? ⟨b, 0, none⟩ := World.cell?_of_block (Below.heap_setCell W ⟨a, 0, none⟩ v b h)
theorem Five.kept {B : Nat} {W W2 : World} {s : List UInt8} {stop : Int} {k : Nat} {last : List UInt8} {row : Option Nat} (h : Five B W s stop k last) (hg : W.grownBy W2 row) (hr : ∀ r, row = some r → ∃ o : Obj, W.heap[r]? = some o ∧ o.isCells = false) : Five B W2 s stop k last :=
  ⟨cell_kept h.c0 hg hr, cell_kept h.c1 hg hr, cell_kept h.c2 hg hr, (frozen_kept h.c2 hg hr).trans h.f2, cell_kept h.c3 hg hr, (frozen_kept h.c3 hg hr).trans h.f3, cell_kept h.c4 hg hr, (frozen_kept h.c4 hg hr).trans h.f4⟩
theorem Five.away {B b : Nat} {W : World} {s : List UInt8} {stop : Int} {k : Nat} {last : List UInt8} (h : Five B W s stop k last) (hb : B + 4 < b) (v : Value) : Five B (W.setCell ⟨b, 0, none⟩ v) s stop k last :=
  ⟨(far _ _ _ _ (by omega)).trans h.c0, (far _ _ _ _ (by omega)).trans h.c1, (far _ _ _ _ (by omega)).trans h.c2, (World.frozen?_setCell _ _ _ _).trans h.f2, (far _ _ _ _ (by omega)).trans h.c3, (World.frozen?_setCell _ _ _ _).trans h.f3, (far _ _ _ _ (by omega)).trans h.c4, (World.frozen?_setCell _ _ _ _).trans h.f4⟩
theorem Five.next {B : Nat} {W : World} {s : List UInt8} {stop : Int} {k : Nat} {last : List UInt8} (h : Five B W s stop k last) (x : List UInt8) (v : Value) (hv : v = .int .i64 ((k + 1 : Nat) : Int)) : Five B ((W.setCell ⟨B + 4, 0, none⟩ (.string ⟨x.toArray⟩)).setCell ⟨B + 3, 0, none⟩ v) s stop (k + 1) x := by
  subst hv
  refine ⟨(far _ _ _ _ (by omega)).trans ((far _ _ _ _ (by omega)).trans h.c0), (far _ _ _ _ (by omega)).trans ((far _ _ _ _ (by omega)).trans h.c1), (far _ _ _ _ (by omega)).trans ((far _ _ _ _ (by omega)).trans h.c2), ?_, ?_, ?_, ?_, ?_⟩
  · exact (World.frozen?_setCell _ _ _ _).trans ((World.frozen?_setCell _ _ _ _).trans h.f2)
  · exact World.cell?_setCell_same' _ _ _ (by rw [far _ _ _ _ (by omega), h.c3]; rfl)
  · exact (World.frozen?_setCell _ _ _ _).trans ((World.frozen?_setCell _ _ _ _).trans h.f3)
  · exact (far _ _ _ _ (by omega)).trans (World.cell?_setCell_same' _ _ _ (by rw [h.c4]; rfl))
  · exact (World.frozen?_setCell _ _ _ _).trans ((World.frozen?_setCell _ _ _ _).trans h.f4)
theorem Five.drew {B n : Nat} {W : World} {s : List UInt8} {stop : Int} {k : Nat} {last : List UInt8} (h : Five B W s stop k last) : Five B (W.drewN n) s stop k last := ⟨h.c0, h.c1, h.c2, h.f2, h.c3, h.f3, h.c4, h.f4⟩
theorem Five.below {B : Nat} {W W2 : World} {s : List UInt8} {stop : Int} {k : Nat} {last : List UInt8} (h : Five B W s stop k last) (hb : Below W.heap.size W W2) : Five B W2 s stop k last := by
  have hz : B + 4 < W.heap.size := World.block_lt_of_cell? _ _ h.c4
  exact ⟨(hb.cell (p := ⟨B, 0, none⟩) (by show B < _; omega)).trans h.c0, (hb.cell (p := ⟨B + 1, 0, none⟩) (by show B + 1 < _; omega)).trans h.c1, (hb.cell (p := ⟨B + 2, 0, none⟩) (by show B + 2 < _; omega)).trans h.c2, (hb.frozen (p := ⟨B + 2, 0, none⟩) (by show B + 2 < _; omega)).trans h.f2,
    (hb.cell (p := ⟨B + 3, 0, none⟩) (by show B + 3 < _; omega)).trans h.c3, (hb.frozen (p := ⟨B + 3, 0, none⟩) (by show B + 3 < _; omega)).trans h.f3, (hb.cell (p := ⟨B + 4, 0, none⟩) (by show B + 4 < _; omega)).trans h.c4, (hb.frozen (p := ⟨B + 4, 0, none⟩) (by show B + 4 < _; omega)).trans h.f4⟩
theorem own_slice {w : World} {base : Nat} {e : TypeId} {v : Value} {n : Nat} {xs : List Value} (h : w.ownsRow base e 1 v n xs) (hn : 0 < n) : ∃ g cap, v = .slice (some ⟨g, 0, none⟩) n cap := by
  rcases h.2 with ⟨_, h0⟩ | ⟨g, cap, cur, rfl, _⟩
  · omega
  · exact ⟨g, cap, rfl⟩
/-- what counts at the end: the law's all -/
def allN (s : List UInt8) : Nat := if s.isEmpty then 1 else (parts s).length + 1
set_option maxRecDepth 100000 in
set_option maxHeartbeats 8000000 in
theorem ups_main (s : List UInt8) (stop : Int) (w : World) (hl : s.length ≤ 200) (hs : rightB s = true) :
    Calls Try.prog 6 #[.string ⟨s.toArray⟩, .int .i64 stop] w fun e w' => e = .returned (.bool true) ∧ Below w.heap.size w w' := by
  have g1 : decide (200 < (s.length : Int)) = false := by rw [decide_eq_false_iff_not]; omega
  have r1 : ∀ w, (Op.stringOp .add ⟨s.toArray⟩ ⟨#[47]⟩).run Try.prog w = .ok (.string ⟨(s ++ [47]).toArray⟩) w := fun w => run_string_add_lists w s [47] (by omega) (by simp)
  refine (callsIn_wide (n := 6)).1 ?_
  refine callsIn_of_wp_marks Try.func6 rfl trivial ?_ rfl
  simp only [Try.ntmps6, List.size_toArray, List.length_cons, List.length_nil, Nat.reduceAdd, Nat.reduceSub, Array.replicate_succ, Array.replicate_zero, List.push_toArray, List.append_toArray, List.nil_append, List.cons_append]
  refine wpIn_wide.2 ?_
  go_wp2_with (first | (go_at_call 8; refine (fit_any _).mono ?_; rintro e w' ⟨rfl, ⟨n1, rfl⟩⟩) | (go_at_call 11; refine (right_l _ _ (by omega)).mono ?_; rintro e w' ⟨rfl, ⟨_, rfl⟩⟩) | (go_at_call 13; refine (up_any _ _).mono ?_; rintro e w' ⟨rfl, rfl⟩))
  clear r1
  generalize hW0 : World.alloc _ (Obj.cells #[Value.string ⟨s.toArray⟩] _) = W0
  have hfacts : Five w.heap.size W0 s stop 0 (s ++ [47]) ∧ W0.cell? ⟨w.heap.size + 5, 0, none⟩ = some (.string ⟨s.toArray⟩) ∧ W0.frozen? ⟨w.heap.size + 5, 0, none⟩ = false ∧ W0.heap.size = w.heap.size + 6 ∧ Below w.heap.size w W0 := by
    rw [← hW0]
    refine ⟨⟨by simp [go_sem], by simp [go_sem], by simp [go_sem], by simp [go_sem], by simp [go_sem], by simp [go_sem], by simp [go_sem], by simp [go_sem]⟩, by simp [go_sem], by simp [go_sem], by simp [go_sem], ?_⟩
    exact (((bdrew (((balloc0 w _).alloc (by simp [go_sem]) _).alloc (by simp [go_sem]; omega) _)).alloc (by simp [go_sem]; omega) _).alloc (by simp [go_sem]; omega) _).alloc (by simp [go_sem]; omega) _
  obtain ⟨hF, cS, fS, hsz, hB0⟩ := hfacts
  clear hW0
  have hn := names_right hs
  have HTell := Lib.hid (up_tells s hn (by omega) (w.heap.size + 5) (6 - 1) (by omega) W0 (by omega) cS fS)
  clear cS fS
  have HN := Lib.hid hn; have HR := Lib.hid hs; clear hn
  refine wpIn_wide (n := 6).1 ?_
  refine Rg.wpIn_range_cell rfl (by omega) (gf := 16) (lb := #[.pointer (some ⟨w.heap.size + 5, 0, none⟩)]) rfl trivial (enters_of Try.func16 (by kernel_rfl) rfl) (by omega) HTell.out (fun _ => rfl)
    (fun pre W => Five w.heap.size W s stop pre.length ((pre.getLast?).getD (s ++ [47])) ∧ Below w.heap.size w W)
    (fun c pre W => (c = .exit 0 ∧ (pre.length : Int) = stop ∧ Five w.heap.size W s stop pre.length ((pre.getLast?).getD (s ++ [47]))) ∧ Below w.heap.size w W)
    (OwnFrom.and (Own.from (I := fun (pre : List (List UInt8)) W => Five w.heap.size W s stop pre.length ((pre.getLast?).getD (s ++ [47]))) (fun _ _ _ _ hs hg hr => Five.kept hs hg hr) _) (ownFrom_below (Nat.le_refl _) (by omega)))
    (fun c => OwnFrom.and (Own.from (I := fun (pre : List (List UInt8)) W => c = .exit 0 ∧ (pre.length : Int) = stop ∧ Five w.heap.size W s stop pre.length ((pre.getLast?).getD (s ++ [47]))) (fun _ _ _ _ hs hg hr => ⟨hs.1, hs.2.1, Five.kept hs.2.2 hg hr⟩) _) (ownFrom_below (Nat.le_refl _) (by omega)))
    (fun pre W v ⟨h1, h4⟩ => ⟨h1.away (by omega) v, h4.setCell (p := ⟨w.heap.size + 5, 0, none⟩) (by simp) _⟩)
    (fun c pre W v ⟨⟨e, h0, h1⟩, h4⟩ => ⟨⟨e, h0, h1.away (by omega) v⟩, h4.setCell (p := ⟨w.heap.size + 5, 0, none⟩) (by simp) _⟩)
    ⟨hF, hB0⟩
    (fun x => { tmps := #[.string ⟨s.toArray⟩, .int .i64 stop, .pointer (some ⟨w.heap.size, 0, none⟩), .pointer (some ⟨w.heap.size + 1, 0, none⟩), .pointer (some ⟨w.heap.size + 2, 0, none⟩), .pointer (some ⟨w.heap.size + 3, 0, none⟩), .pointer (some ⟨w.heap.size + 4, 0, none⟩), .string ⟨x.toArray⟩, undef, .bool true, .bool false, .string ⟨s.toArray⟩, .int .i64 ↑s.length, .bool false, .bool false, .string ⟨s.toArray⟩, .bool true, .bool false, .bool false, .string ⟨s.toArray⟩, .string ⟨(s ++ [47]).toArray⟩, .string ⟨s.toArray⟩, .func (.func 16) #[] #[.pointer (some ⟨w.heap.size + 5, 0, none⟩)], .string ⟨x.toArray⟩, undef, undef, undef, undef, undef, undef, undef, undef, undef, undef, undef, undef, undef, undef, undef, undef, undef, undef, undef, undef, undef, undef, undef, undef, undef, undef, undef, undef, undef, undef, undef, undef, undef, undef, undef, undef, undef, undef, undef, undef], defers := [] }) ?assign ?body ?done ?stop
  case assign =>
    intro l x W K hK
    gi_wp2
    exact hK
  case body =>
    rintro l pre x W ⟨hF, hB⟩ hpre
    dsimp only
    have hrd := ups_round HN.out hpre
    obtain ⟨hx1, hx2, hx3, _, _⟩ := hrd
    have hxr : rightB x = true := by
      obtain ⟨q1, q2, _⟩ := pre_at hpre
      rw [q2]; exact right_up HR.out _ (by have := upN_le s; omega)
    have hkl : pre.length ≤ 300 := by
      obtain ⟨q1, _, _⟩ := pre_at hpre
      have := upN_le s; have := parts_length s; omega
    clear HTell HR HN hpre
    obtain ⟨c0, c1, c2, f2, c3, f3, c4, f4⟩ := hF
    have hF : Five w.heap.size W s stop pre.length ((pre.getLast?).getD (s ++ [47])) := ⟨c0, c1, c2, f2, c3, f3, c4, f4⟩
    have hlen : (pre ++ [x]).length = pre.length + 1 := by simp
    have hlast : ((pre ++ [x]).getLast?).getD (s ++ [47]) = x := by simp
    have HF := Lib.hid hF; have HL := Lib.hid hlen; have HLA := Lib.hid hlast
    clear hF hlen hlast
    generalize (pre.getLast?).getD (s ++ [47]) = last at *
    generalize hk : pre.length = k at *
    have HK := Lib.hid hk; clear hk
    have hge : decide ((last.length : Int) ≤ (x.length : Int)) = false := by rw [decide_eq_false_iff_not]; omega
    have q0 : (k : Int) + 1 ≤ 301 := by omega
    clear hF hB0 hsz
    have HHB := Lib.hid hB; clear hB
    cases hst : (((k : Int) + 1) == stop)
    all_goals
      gi_wp2_with (first | (refine ⟨trivial, ?_⟩; gi_at_call 12; refine (CallsIn.inRound l (callsIn_wide.2 (under_l _ _ _ (by omega) (by omega)))).mono ?_; rintro e w' ⟨rfl, rfl⟩) | (refine ⟨trivial, ?_⟩; gi_at_call 11; refine (CallsIn.inRound l (callsIn_wide.2 (right_l _ _ (by omega)))).mono ?_; rintro e w' ⟨rfl, ⟨n2, rfl⟩⟩))
    · exact ⟨(KeepsOthers.trans (A := W) (B := W.drewN n2) ⟨Nat.le_refl _, fun _ _ h _ => h⟩ (KeepsOthers.setCell _ _ _)).trans (KeepsOthers.setCell _ _ _), (Below.heap_setCell _ _ _ _ (by simp)).trans (Below.heap_setCell _ _ _ _ (by simp)), by rw [HL.out, HLA.out]; exact HF.out.drew.next x _ (by go_num),
        ((bdrew HHB.out).setCell (p := ⟨w.heap.size + 4, 0, none⟩) (by simp) _).setCell (p := ⟨w.heap.size + 3, 0, none⟩) (by simp) _⟩
    · exact ⟨(KeepsOthers.trans (A := W) (B := W.drewN n2) ⟨Nat.le_refl _, fun _ _ h _ => h⟩ (KeepsOthers.setCell _ _ _)).trans (KeepsOthers.setCell _ _ _), ⟨rfl, by rw [HL.out]; have := beq_iff_eq.1 hst; omega, by rw [HL.out, HLA.out]; exact HF.out.drew.next x _ (by go_num)⟩,
        ((bdrew HHB.out).setCell (p := ⟨w.heap.size + 4, 0, none⟩) (by simp) _).setCell (p := ⟨w.heap.size + 3, 0, none⟩) (by simp) _⟩
  case done =>
    rintro D W hD ⟨hF, hB⟩ hK
    have e1 : (ups s).length = allN s := by rw [ups_len]; unfold upN allN; split <;> rfl
    have e2 : ((ups s).getLast?).getD (s ++ [47]) = [] := by
      rw [List.getLast?_eq_getElem?, ups_len, show upN s + 1 - 1 = upN s by omega, ups_at s _ (by omega), Nat.sub_self]; rfl
    rw [e1, e2] at hF
    clear e1 e2 HTell HR HN
    simp only [Exit.inBlock, Exit.then]
    have HBB := Lib.hid hB; clear hB
    have he : allN s = if s.isEmpty then 1 else (parts s).length + 1 := rfl
    cases hse : s.isEmpty
    · rw [hse] at he
      simp only [Bool.false_eq_true, if_false] at he
      rw [he] at hF
      clear he
      have hpos : 0 < (parts s).length := List.length_pos_iff.2 (parts_ne s)
      have hpl : (parts s).length ≤ 300 := by have := parts_length s; omega
      have hpa := fun w => parts_any ⟨s.toArray⟩ w (by show s.length ≤ _; omega)
      have HF := Lib.hid hF
      obtain ⟨c0, c1, c2, f2, c3, f3, c4, f4⟩ := hF
      have HPA := Lib.hid hpa; clear hpa
      cases b3 : (((parts s).length : Int) + 1 == stop)
      all_goals (as_aux_lemma => (go_wp2_with fail; refine (HPA.out _).mono ?_; rintro e w1 ⟨v, rfl, hown, hb1⟩; obtain ⟨g, cap, rfl⟩ := own_slice hown hpos; clear hown; have hF1 := HF.out.below hb1; obtain ⟨c0, c1, c2, f2, c3, f3, c4, f4⟩ := hF1; have hKK : w1.heap[D]? = some (.deferred (some [])) := (hb1.block D (Array.getElem?_eq_some_iff.1 hK).1).trans hK; have hbb := HBB.out.trans (hb1.mono HBB.out.size); have HBC := Lib.hid hbb; clear hbb hb1; go_wp2_with fail; (have hc5 := cell_kept (World.cell?_setCell_same' _ ⟨w.heap.size + 2, 0, none⟩ (.bool true) (by rw [c2]; rfl)) (grownBy_putObj' _ D (.deferred none)) (fun r e => by cases e; exact ⟨_, Rg.heap_set _ _ _ _ _ rfl hKK, rfl⟩)); (refine ⟨by simp, .inl ⟨_, _, rfl, run_takeDeferred (Rg.heap_set _ _ _ _ _ rfl hKK), ?_⟩⟩; refine ⟨.bool true, ?_, rfl, ?_⟩); rotate_left 1; exact (HBC.out.setCell (p := ⟨w.heap.size + 2, 0, none⟩) (by simp) _).trans (belowK_b (w := w) (Nat.le_refl _) _ D _ _ (by omega) (Rg.heap_set _ _ _ _ _ rfl hKK) rfl rfl); simp [results, Try.f6, go_sem, hc5]))
    · rw [hse] at he
      simp only [if_true] at he
      rw [he] at hF
      clear he
      obtain ⟨c0, c1, c2, f2, c3, f3, c4, f4⟩ := hF
      have hKK := hK
      cases b3 : ((1 : Int) == stop)
      all_goals (as_aux_lemma => (go_wp2_with fail; (have hc5 := cell_kept (World.cell?_setCell_same' _ ⟨w.heap.size + 2, 0, none⟩ (.bool true) (by rw [c2]; rfl)) (grownBy_putObj' _ D (.deferred none)) (fun r e => by cases e; exact ⟨_, Rg.heap_set _ _ _ _ _ rfl hKK, rfl⟩)); (refine ⟨by simp, .inl ⟨_, _, rfl, run_takeDeferred (Rg.heap_set _ _ _ _ _ rfl hKK), ?_⟩⟩; refine ⟨.bool true, ?_, rfl, ?_⟩); rotate_left 1; exact (HBB.out.setCell (p := ⟨w.heap.size + 2, 0, none⟩) (by simp) _).trans (belowK_b (w := w) (Nat.le_refl _) _ D _ _ (by omega) (Rg.heap_set _ _ _ _ _ rfl hKK) rfl rfl); simp [results, Try.f6, go_sem, hc5]))
  case stop =>
    rintro D c pre W hD hpre ⟨⟨rfl, hst, hF⟩, hB⟩ hK
    clear HTell HR HN hpre
    refine wpIn_wide.2 ?_
    have HBB := Lib.hid hB; clear hB
    subst hst
    generalize (pre.getLast?).getD (s ++ [47]) = last at *
    generalize pre.length = k at *
    cases hse : s.isEmpty
    · have hpos : 0 < (parts s).length := List.length_pos_iff.2 (parts_ne s)
      have hpl : (parts s).length ≤ 300 := by have := parts_length s; omega
      have hpa := fun w => parts_any ⟨s.toArray⟩ w (by show s.length ≤ _; omega)
      have HF := Lib.hid hF
      obtain ⟨c0, c1, c2, f2, c3, f3, c4, f4⟩ := hF
      have HPA := Lib.hid hpa; clear hpa
      cases b1 : ((k : Int) == ((parts s).length : Int) + 1) <;> cases b2 : last.isEmpty
      all_goals (as_aux_lemma => (go_wp2_with fail; refine (HPA.out _).mono ?_; rintro e w1 ⟨v, rfl, hown, hb1⟩; obtain ⟨g, cap, rfl⟩ := own_slice hown hpos; clear hown; have hF1 := HF.out.below hb1; obtain ⟨c0, c1, c2, f2, c3, f3, c4, f4⟩ := hF1; have hKK : w1.heap[D]? = some (.deferred (some [])) := (hb1.block D (Array.getElem?_eq_some_iff.1 hK).1).trans hK; have hbb := HBB.out.trans (hb1.mono HBB.out.size); have HBC := Lib.hid hbb; clear hbb hb1; go_wp2_with fail; (have hc5 := cell_kept (World.cell?_setCell_same' _ ⟨w.heap.size + 2, 0, none⟩ (.bool true) (by rw [c2]; rfl)) (grownBy_putObj' _ D (.deferred none)) (fun r e => by cases e; exact ⟨_, Rg.heap_set _ _ _ _ _ rfl hKK, rfl⟩)); (refine ⟨by simp, .inl ⟨_, _, rfl, run_takeDeferred (Rg.heap_set _ _ _ _ _ rfl hKK), ?_⟩⟩; refine ⟨.bool true, ?_, rfl, ?_⟩); rotate_left 1; exact (HBC.out.setCell (p := ⟨w.heap.size + 2, 0, none⟩) (by simp) _).trans (belowK_b (w := w) (Nat.le_refl _) _ D _ _ (by omega) (Rg.heap_set _ _ _ _ _ rfl hKK) rfl rfl); simp [results, Try.f6, go_sem, hc5]))
    · obtain ⟨c0, c1, c2, f2, c3, f3, c4, f4⟩ := hF
      have hKK := hK
      cases b1 : ((k : Int) == 1) <;> cases b2 : last.isEmpty
      all_goals (as_aux_lemma => (go_wp2_with fail; (have hc5 := cell_kept (World.cell?_setCell_same' _ ⟨w.heap.size + 2, 0, none⟩ (.bool true) (by rw [c2]; rfl)) (grownBy_putObj' _ D (.deferred none)) (fun r e => by cases e; exact ⟨_, Rg.heap_set _ _ _ _ _ rfl hKK, rfl⟩)); (refine ⟨by simp, .inl ⟨_, _, rfl, run_takeDeferred (Rg.heap_set _ _ _ _ _ rfl hKK), ?_⟩⟩; refine ⟨.bool true, ?_, rfl, ?_⟩); rotate_left 1; exact (HBB.out.setCell (p := ⟨w.heap.size + 2, 0, none⟩) (by simp) _).trans (belowK_b (w := w) (Nat.le_refl _) _ D _ _ (by omega) (Rg.heap_set _ _ _ _ _ rfl hKK) rfl rfl); simp [results, Try.f6, go_sem, hc5]))
set_option maxRecDepth 20000 in
set_option maxHeartbeats 1000000 in
theorem ups_any (s : List UInt8) (stop : Int) (w : World) (hls : s.length ≤ 140737488351232) :
    Calls Try.prog 6 #[.string ⟨s.toArray⟩, .int .i64 stop] w fun e w' => e = .returned (.bool true) ∧ Below w.heap.size w w' := by
  by_cases hl : s.length ≤ 200
  · cases hs : rightB s
    · have g1 : decide (200 < (s.length : Int)) = false := by rw [decide_eq_false_iff_not]; omega
      go_enter Try.func6, Try.ntmps6
      go_wp2_with (first | (go_at_call 8; refine (fit_any _).mono ?_; rintro e w' ⟨rfl, ⟨n1, rfl⟩⟩) | (go_at_call 11; refine (right_l _ _ (by omega)).mono ?_; rintro e w' ⟨rfl, ⟨_, rfl⟩⟩))
      go_returns
      exact ⟨rfl, (bdrew (((balloc0 w _).alloc (by simp [go_sem]) _).alloc (by simp [go_sem]; omega) _)).setCell (p := ⟨w.heap.size + 1 + 1, 0, none⟩) (by simp; omega) _⟩
    · exact ups_main s stop w hl hs
  · have g1 : decide (200 < (s.length : Int)) = true := by rw [decide_eq_true_iff]; omega
    go_enter Try.func6, Try.ntmps6
    go_wp2_with (first | (go_at_call 8; refine (fit_any _).mono ?_; rintro e w' ⟨rfl, ⟨n1, rfl⟩⟩))
    go_returns
    exact ⟨rfl, (bdrew (((balloc0 w _).alloc (by simp [go_sem]) _).alloc (by simp [go_sem]; omega) _)).setCell (p := ⟨w.heap.size + 1 + 1, 0, none⟩) (by simp; omega) _⟩
end Go.Proofs.Ytpmgooefkkbpbaa.Sc
