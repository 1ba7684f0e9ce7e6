/- THE WALK OF the law ScopeAll: going up tells just the scopes that one is below. -/
import Derived.Test.YtpmgooefkkbpbaaUps
import Derived.Test.YtpmgooefkkbpbaaScLaw
namespace Go.Proofs.Ytpmgooefkkbpbaa.Sc
open Go.RowKit Go.Shelf
attribute [local go_sem] Oper.semAt_some
theorem balloc0 (w : World) (o : Obj) : Below w.heap.size w (w.alloc o) := (Below.refl _ _).alloc (Nat.le_refl _) _
theorem bdrew {B : Nat} {w a : World} {n : Nat} (h : Below B w a) : Below B w (a.drewN n) := h.trans ⟨rfl, rfl, rfl, Nat.le_refl _, fun _ _ => rfl⟩
set_option maxRecDepth 100000 in
set_option maxHeartbeats 4000000 in
theorem all_main (s t : List UInt8) (w : World) (hl : s.length + t.length ≤ 200) (hs : rightB s = true) (ht : rightB t = true) :
    Calls Try.prog 7 #[.string ⟨s.toArray⟩, .string ⟨t.toArray⟩] w fun e w' => e = .returned (.bool true) ∧ Below w.heap.size w w' := by
  have g1 : decide (200 < ((s.length : Int) + (t.length : Int))) = false := by rw [decide_eq_false_iff_not]; omega
  refine (callsIn_wide (n := 6)).1 ?_
  refine callsIn_of_wp_marks Try.func7 rfl trivial ?_ rfl
  simp only [Try.ntmps7, List.size_toArray, List.length_cons, List.length_nil, Nat.reduceAdd, Nat.reduceSub, Array.replicate_succ, Array.replicate_zero, List.push_toArray, List.append_toArray, List.nil_append, List.cons_append]
  refine wpIn_wide.2 ?_
  go_wp2_with (first | (go_at_call 8; refine (fit_any _).mono ?_; rintro e w' ⟨rfl, ⟨n1, rfl⟩⟩) | (go_at_call 11; refine (right_l _ _ (by omega)).mono ?_; rintro e w' ⟨rfl, ⟨_, rfl⟩⟩) | (go_at_call 13; refine (up_any _ _).mono ?_; rintro e w' ⟨rfl, rfl⟩))
  generalize hW0 : World.alloc _ (Obj.cells #[Value.string ⟨s.toArray⟩] _) = W0
  have hfacts : W0.cell? ⟨w.heap.size + 1, 0, none⟩ = some (.bool false) ∧ W0.frozen? ⟨w.heap.size + 1, 0, none⟩ = false ∧ W0.cell? ⟨w.heap.size, 0, none⟩ = some (.string ⟨t.toArray⟩) ∧
      W0.cell? ⟨w.heap.size + 2, 0, none⟩ = some (.string ⟨s.toArray⟩) ∧ W0.frozen? ⟨w.heap.size + 2, 0, none⟩ = false ∧ W0.heap.size = w.heap.size + 3 ∧ Below w.heap.size w W0 := by
    rw [← hW0]
    refine ⟨by simp [go_sem], by simp [go_sem], by simp [go_sem], by simp [go_sem], by simp [go_sem], by simp [go_sem], ?_⟩
    exact ((bdrew (balloc0 w _)).alloc (by simp [go_sem]) _).alloc (by simp [go_sem]; omega) _
  obtain ⟨cIn, fIn, cT, cS, fS, hsz, hB0⟩ := hfacts
  clear hW0
  have hn := names_right hs
  have HTell := Lib.hid (up_tells s hn (by omega) (w.heap.size + 2) (6 - 1) (by omega) W0 (by omega) cS fS)
  clear cS fS
  have hun := ups_mem s t
  have HU := Lib.hid hun; clear hun hn
  refine wpIn_wide (n := 6).1 ?_
  refine Rg.wpIn_range_cell rfl (by omega) (gf := 16) (lb := #[.pointer (some ⟨w.heap.size + 2, 0, none⟩)]) rfl trivial (enters_of Try.func16 (by kernel_rfl) rfl) (by omega) HTell.out (fun _ => rfl)
    (fun pre W => (W.cell? ⟨w.heap.size + 1, 0, none⟩ = some (.bool (decide (t ∈ pre))) ∧ W.frozen? ⟨w.heap.size + 1, 0, none⟩ = false ∧ W.cell? ⟨w.heap.size, 0, none⟩ = some (.string ⟨t.toArray⟩)) ∧ Below w.heap.size w W)
    (fun _ _ _ => False)
    (OwnFrom.and (Own.from (fun s A B row hs hg hr => ⟨cell_kept hs.1 hg hr, (frozen_kept hs.1 hg hr).trans hs.2.1, cell_kept hs.2.2 hg hr⟩) _) (ownFrom_below (Nat.le_refl _) (by omega)))
    (fun _ _ _ _ _ hs _ _ => hs)
    (fun pre W v ⟨⟨h1, h2, h3⟩, h4⟩ => ⟨⟨(World.cell?_of_block (Below.heap_setCell W _ v _ (by simp))).trans h1, (World.frozen?_of_block (Below.heap_setCell W _ v _ (by simp))).trans h2, (World.cell?_of_block (Below.heap_setCell W _ v _ (by simp))).trans h3⟩, h4.setCell (p := ⟨w.heap.size + 2, 0, none⟩) (by simp) _⟩)
    (fun _ _ _ _ h => h.elim)
    ⟨⟨by rw [cIn]; rfl, fIn, cT⟩, hB0⟩
    (fun x => { tmps := #[.string ⟨s.toArray⟩, .string ⟨t.toArray⟩, undef, .pointer (some ⟨w.heap.size, 0, none⟩), .bool false, .pointer (some ⟨w.heap.size + 1, 0, none⟩), .string ⟨x.toArray⟩, .bool true, .bool false, .string ⟨s.toArray⟩, .int .i64 ↑s.length, .string ⟨t.toArray⟩, .int .i64 ↑t.length, .int .i64 (↑s.length + ↑t.length), .bool false, .bool false, .string ⟨s.toArray⟩, .bool true, .bool false, .bool false, .bool false, .string ⟨t.toArray⟩, .bool true, .bool false, .bool false, .string ⟨s.toArray⟩, .func (.func 16) #[] #[.pointer (some ⟨w.heap.size + 2, 0, none⟩)], .string ⟨x.toArray⟩, undef, undef, undef, undef, undef, undef, undef, undef, undef, undef, undef], defers := [] }) ?assign ?body ?done ?stop
  case assign =>
    intro l x W K hK
    gi_wp2
    exact hK
  case body =>
    rintro l pre x W ⟨⟨hc, hf, ht⟩, hB⟩ _
    dsimp only
    clear cIn fIn cT hB0 HTell HU
    have hmem : decide (t ∈ pre ++ [x]) = (decide (t ∈ pre) || (x == t)) := by
      rw [Bool.eq_iff_iff]; simp only [decide_eq_true_eq, List.mem_append, List.mem_singleton, Bool.or_eq_true, beq_iff_eq]
      exact ⟨fun h => h.elim .inl (fun e => .inr e.symm), fun h => h.elim .inl (fun e => .inr e.symm)⟩
    have HM := Lib.hid hmem; clear hmem
    have same : ∀ v : Value, (W.setCell ⟨w.heap.size + 1, 0, none⟩ v).heap[w.heap.size + 2]? = W.heap[w.heap.size + 2]? := fun v => Below.heap_setCell W _ v _ (by simp)
    have cellT : ∀ v : Value, (W.setCell ⟨w.heap.size + 1, 0, none⟩ v).cell? ⟨w.heap.size, 0, none⟩ = some (.string ⟨t.toArray⟩) := fun v => (World.cell?_of_block (Below.heap_setCell W _ v _ (by simp))).trans ht
    have cellI : ∀ v : Value, (W.setCell ⟨w.heap.size + 1, 0, none⟩ v).cell? ⟨w.heap.size + 1, 0, none⟩ = some v := fun v => World.cell?_setCell_same' _ _ _ (by rw [hc]; rfl)
    have HS := Lib.hid same; have HCT := Lib.hid cellT; have HCI := Lib.hid cellI
    clear same cellT cellI
    cases hin : decide (t ∈ pre) <;> cases hxt : (x == t)
    all_goals
      rw [hin] at hc
      rw [hin, hxt] at HM
      have HH := Lib.hid hin; clear hin
      gi_wp2
      exact ⟨KeepsOthers.setCell _ _ _, HS.out _, ⟨by rw [HM.out]; exact HCI.out _, (World.frozen?_setCell _ _ _ _).trans hf, HCT.out _⟩, hB.setCell (p := ⟨w.heap.size + 1, 0, none⟩) (by simp) _⟩
  case done =>
    rintro D W hD ⟨⟨hc, hf, ht⟩, hB⟩ hK
    clear cIn fIn cT hB0 HTell
    have hu : decide (t ∈ ups s) = underB s t := by rw [Bool.eq_iff_iff, decide_eq_true_eq]; exact HU.out
    rw [hu] at hc
    clear hu HU
    dsimp only
    simp only [Exit.inBlock, Exit.then]
    go_wp2_with fail
    go_quiet ((go_at_call 12; exact Calls.quiet_of_same ((under_l s t _ (by omega) (by omega)).mono fun _ _ ⟨h1, h2⟩ => ⟨h1, h2.symm⟩)))
    go_wp2
    have hK' : (W.drewN nq).heap[D]? = some (.deferred (some [])) := hK
    refine ⟨by simp, .inl ⟨_, _, rfl, run_takeDeferred hK', ?_⟩⟩
    exact ⟨_, results_tmp rfl _ _ _, rfl, (bdrew hB).trans (belowK_b (w := w) (Nat.le_refl _) (W.drewN nq) D _ _ (by omega) hK' rfl rfl)⟩
  case stop =>
    rintro D c pre W _ _ h _
    exact h.elim
set_option maxRecDepth 20000 in
set_option maxHeartbeats 1000000 in
theorem all_any (s t : List UInt8) (w : World) (hls : s.length ≤ 140737488351232) (hlt : t.length ≤ 140737488351232) :
    Calls Try.prog 7 #[.string ⟨s.toArray⟩, .string ⟨t.toArray⟩] w fun e w' => e = .returned (.bool true) ∧ Below w.heap.size w w' := by
  by_cases hl : s.length + t.length ≤ 200
  · cases hs : rightB s
    · have g1 : decide (200 < ((s.length : Int) + (t.length : Int))) = false := by rw [decide_eq_false_iff_not]; omega
      go_enter Try.func7, Try.ntmps7
      go_wp2_with (first | (go_at_call 8; refine (fit_any _).mono ?_; rintro e w' ⟨rfl, ⟨n1, rfl⟩⟩) | (go_at_call 11; refine (right_l _ _ (by omega)).mono ?_; rintro e w' ⟨rfl, ⟨_, rfl⟩⟩))
      go_ret
      exact ⟨rfl, bdrew (balloc0 _ _)⟩
    · cases ht : rightB t
      · have g1 : decide (200 < ((s.length : Int) + (t.length : Int))) = false := by rw [decide_eq_false_iff_not]; omega
        go_enter Try.func7, Try.ntmps7
        go_wp2_with (first | (go_at_call 8; refine (fit_any _).mono ?_; rintro e w' ⟨rfl, ⟨n1, rfl⟩⟩) | (go_at_call 11; refine (right_l _ _ (by omega)).mono ?_; rintro e w' ⟨rfl, ⟨_, rfl⟩⟩))
        go_ret
        exact ⟨rfl, bdrew (balloc0 _ _)⟩
      · exact all_main s t w hl hs ht
  · have g1 : decide (200 < ((s.length : Int) + (t.length : Int))) = true := by rw [decide_eq_true_iff]; omega
    go_enter Try.func7, Try.ntmps7
    go_wp2_with (first | (go_at_call 8; refine (fit_any _).mono ?_; rintro e w' ⟨rfl, ⟨n1, rfl⟩⟩))
    go_ret
    exact ⟨rfl, bdrew (balloc0 _ _)⟩
end Go.Proofs.Ytpmgooefkkbpbaa.Sc
