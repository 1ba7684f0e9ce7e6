/- THE WALK OF slices.Insert at attributes, one element, onto a row of the call's own: ahead of others. -/
import Derived.Test.YtpbdgbejcdncgaaInsertFn
import Derived.Shelf.Spec.SlicesInsert
namespace Go.Proofs.Ytpbdgbejcdncgaa.Val
open Go.RowKit Flt Go.Lib
theorem overlaps_apart (w : World) (vb g n1 n2 c1 c2 o : Nat) (tA tB : TypeId) (xs ys : Array Value) (hne : vb ≠ g) (hA : w.heap[vb]? = some (.cells xs tA (0, 0))) (hB : w.heap[g]? = some (.cells ys tB (0, 0))) (hy : ys.size ≠ 0) :
    (callFunc 53 #[.slice (some ⟨vb, 0, none⟩) n1 c1, .slice (some ⟨g, o, none⟩) n2 c2]).run Try.prog w = .ok (.value (.bool false)) w := by
  rw [run_callFunc_extern Try.func53 (by kernel_rfl) (by kernel_rfl) (by kernel_rfl) (e := Extern.SlicesOverlaps.overlaps #[29, 29] #[4]) (by kernel_rfl),
    Lib.run_overlaps_apart w 29 4 76 Try.underlying29 6 (fun w => by kernel_rfl) ⟨vb, 0, none⟩ ⟨g, o, none⟩ n1 c1 n2 c2 hne tA tB xs.size ys.size
      (by simp [World.shape?, hA]) (by simp [World.shape?, hB]) hy (by simp [World.frozen?, hA]) (by simp [World.frozen?, hA])]
  rfl
theorem addj (b o j : Nat) : (⟨b, o, none⟩ : Addr).add j = ⟨b, o + j, none⟩ := by unfold Addr.add; split <;> simp_all
set_option maxHeartbeats 4000000 in
set_option maxRecDepth 100000 in
theorem insert_room (g cap vb vc i : Nat) (l : List A) (a : A) (cur : List Value) (tv : TypeId) (w : World) (hi : i < l.length) (hroom : l.length + 1 ≤ cap) (hc63 : cap ≤ 9223372036854775807)
    (hg : w.heap[g]? = some (.cells cur.toArray 76 (0, 0))) (hcur : cur.length = cap * 6) (ht : cur.take (l.length * 6) = flatA l) (hv : w.heap[vb]? = some (.cells (flatA [a]).toArray tv (0, 0))) (hne : vb ≠ g) :
    Calls Try.prog 44 #[.slice (some ⟨g, 0, none⟩) l.length cap, .int .i64 i, .slice (some ⟨vb, 0, none⟩) 1 vc] w fun e w' =>
      e = .returned (.slice (some ⟨g, 0, none⟩) (l.length + 1) cap) ∧ w' = (w.drew.setRow g (splice cur ((i + 1) * 6) (flatA (l.drop i))).toArray).setRow g (splice (splice cur ((i + 1) * 6) (flatA (l.drop i))) (i * 6) (flatA [a])).toArray := by
  have hz2 : ¬ ((i : Int) = (l.length : Int)) := by omega
  have hov : ∀ lb cb, (callFunc 53 #[.slice (some ⟨vb, 0, none⟩) 1 vc, .slice (some ⟨g, (i + 1) * 6, none⟩) lb cb]).run Try.prog w = .ok (.value (.bool false)) w :=
    fun lb cb => overlaps_apart w vb g 1 lb vc cb _ _ _ _ _ hne hv hg (by rw [List.size_toArray]; omega)
  have hdl : (flatA (l.drop i)).length = (l.length - i) * 6 := by rw [flatA_len, List.length_drop]
  have h1l : (flatA [a]).length = 6 := by rw [flatA_len]; rfl
  have hs6 : (Try.prog.info? 76).map (·.size) = some 6 := by
    obtain ⟨i0, hi, hz0, hz1, hz2⟩ := info_parts info_attr
    rw [hi]; simp [hz1]
  have hsrc : ∀ j v, (flatA (l.drop i))[j]? = some v → w.cell? ⟨g, i * 6 + j, none⟩ = some v := fun j v hj => by
    rw [cell_of_row w g _ cur.toArray _ _ hg, List.getElem?_toArray]
    rw [← flatA_drop l i (by omega), List.getElem?_drop, ← ht, List.getElem?_take] at hj
    split at hj
    · exact hj
    · cases hj
  have hcp1 : ∀ ty dc sc, (Builtin.copy_ #[29, 29] ty #[.slice (some ⟨g, (i + 1) * 6, none⟩) (l.length - i) dc, .slice (some ⟨g, i * 6, none⟩) (l.length + 1 - i) sc]).run Try.prog w.drew = .ok (goInt (Nat.min (l.length + 1 - i) (l.length - i) : Nat)) (w.drew.setRow g (splice cur ((i + 1) * 6) (flatA (l.drop i))).toArray) := fun ty dc sc =>
    run_copy_rowN w.drew _ _ ty 76 6 g ((i + 1) * 6) _ dc ⟨g, i * 6, none⟩ _ sc cur 76 (flatA (l.drop i)) Try.underlying29 hs6 hg (by rw [hdl]; congr 1; simp only [Nat.min_def]; split <;> omega)
      (fun j v hj => by rw [addj]; exact hsrc j v hj) (by rw [hdl, hcur]; omega) (flatA_one _)
  obtain ⟨X, hX⟩ : ∃ X, X = splice cur ((i + 1) * 6) (flatA (l.drop i)) := ⟨_, rfl⟩
  have hXl : X.length = cap * 6 := by rw [hX, length_splice _ _ _ (by rw [hdl, hcur]; omega), hcur]
  rw [← hX] at hcp1 ⊢
  have hcp2 : ∀ ty dc, (Builtin.copy_ #[29, 29] ty #[.slice (some ⟨g, i * 6, none⟩) (l.length + 1 - i) dc, .slice (some ⟨vb, 0, none⟩) 1 vc]).run Try.prog (w.drew.setRow g X.toArray) = .ok (goInt (Nat.min 1 (l.length + 1 - i) : Nat)) ((w.drew.setRow g X.toArray).setRow g (splice X (i * 6) (flatA [a])).toArray) := fun ty dc =>
    run_copy_rowN (w.drew.setRow g X.toArray) _ _ ty 76 6 g (i * 6) _ dc ⟨vb, 0, none⟩ _ vc X 76 (flatA [a]) Try.underlying29 hs6 (setRow_heap w.drew g _ _ _ _ hg) (by rw [h1l]; simp only [Nat.min_def]; split <;> omega)
      (fun j v hj => by
        rw [addj, cell_setRow_other _ _ _ _ hne]
        show w.cell? _ = _
        rw [cell_of_row w vb _ _ _ _ hv, List.getElem?_toArray, Nat.zero_add]; exact hj) (by rw [h1l, hXl]; omega) (flatA_one _)
  have hw1 : IntKind.i64.wrap ((i : Int) + 1) = (i : Int) + 1 := by rw [IntKind.wrap_i64]; omega
  have hb1 : (0 : Int) ≤ (i : Int) + 1 := by omega
  have htn : ((i : Int) + 1).toNat = i + 1 := by omega
  have hb3 : (i : Int) ≤ (l.length : Int) + 1 := by omega
  have hb4 : ¬ (cap = i) := by omega
  have hb5 : ¬ (cap = i + 1) := by omega
  have hin : i ≤ l.length := by omega
  clear hX hsrc hdl h1l hs6 ht hcur hXl hg hv
  go_enter Try.func44, Try.ntmps44
  go_wp2_with (simp only [hov])
  go_region_law (refine step_copy_runI rfl _ _ 29 29 rfl _ _ (by simp [Act.eval, Act.put]) (by simp [Act.eval, Act.put]) (hcp1 _ _ _) ?_)
  go_wp2_with (at_builtin; refine wpList_copy_runI _ rfl _ _ 29 29 rfl _ _ rfl rfl (hcp2 _ _) ?_)
  go_ret
  exact ⟨rfl, rfl⟩
theorem zero_attr_cells : (Value.agg #[.string .empty, .int .i64 0, .int .i64 0, .float .f64 0, .string .empty, .bool false]).cells.size = 6 := by kernel_rfl
set_option maxHeartbeats 4000000 in
set_option maxRecDepth 100000 in
theorem insert_grow (g cap vb vc i : Nat) (l : List A) (a : A) (cur : List Value) (tv : TypeId) (w : World) (hi : i < l.length) (hlm : l.length ≤ 1000000) (hnc : l.length ≤ cap) (hroom : cap < l.length + 1)
    (hg : w.heap[g]? = some (.cells cur.toArray 76 (0, 0))) (ht : cur.take (l.length * 6) = flatA l) (hv : w.heap[vb]? = some (.cells (flatA [a]).toArray tv (0, 0))) :
    Calls Try.prog 44 #[.slice (some ⟨g, 0, none⟩) l.length cap, .int .i64 i, .slice (some ⟨vb, 0, none⟩) 1 vc] w fun e w' =>
      ∃ (G : Nat) (Z : List Value), l.length + 1 ≤ G ∧ G ≤ maxLen ∧ (flatA (l.take i) ++ Z).length = G * 6 ∧ e = .returned (.slice (some ⟨w.heap.size, 0, none⟩) (l.length + 1) G) ∧
        w'.heap[w.heap.size]? = some (.cells (splice (splice (flatA (l.take i) ++ Z) (i * 6) (flatA [a])) ((i + 1) * 6) (flatA (l.drop i))).toArray 76 (0, 0)) ∧ Below w.heap.size w w' := by
  have hz2 : ¬ ((i : Int) = (l.length : Int)) := by omega
  have hz3 : (cap : Int) < (l.length : Int) + 1 := by omega
  obtain ⟨i0, hi0, hzz, hzs, hzb⟩ := info_parts info_attr
  have hdl : (flatA (l.drop i)).length = (l.length - i) * 6 := by rw [flatA_len, List.length_drop]
  have htl : (flatA (l.take i)).length = i * 6 := by rw [flatA_len, List.length_take]; congr 1; omega
  have h1l : (flatA [a]).length = 6 := by rw [flatA_len]; rfl
  have hs6 : (Try.prog.info? 76).map (·.size) = some 6 := by rw [hi0]; simp [hzs]
  have hgs : g < w.heap.size := (Array.getElem?_eq_some_iff.1 hg).1
  have hvs : vb < w.heap.size := (Array.getElem?_eq_some_iff.1 hv).1
  have hcell : ∀ j v, (flatA l)[j]? = some v → w.cell? ⟨g, j, none⟩ = some v := fun j v hj => by
    rw [cell_of_row w g _ cur.toArray _ _ hg, List.getElem?_toArray]
    rw [← ht, List.getElem?_take] at hj
    split at hj
    · exact hj
    · cases hj
  have hold : (Builtin.firstCells i0.size i (.slice (some ⟨g, 0, none⟩) i cap)).run Try.prog w.drew = .ok (flatA (l.take i)).toArray w.drew := by
    rw [hzs]
    exact run_firstCells_some w.drew 6 i ⟨g, 0, none⟩ i cap (flatA (l.take i)) htl (fun j v hj => by
      rw [addj, Nat.zero_add]
      refine hcell j v ?_
      rw [← flatA_take l i (by omega), List.getElem?_take] at hj
      split at hj
      · exact hj
      · cases hj)
  have hik : i + (l.length + 1 - i) = l.length + 1 := by omega
  have hkk : (l.length : Int) + 1 - (i : Int) = ((l.length + 1 - i : Nat) : Int) := by omega
  obtain ⟨G, hG⟩ : ∃ G, G = grownCap w (l.length + 1) cap 76 := ⟨_, rfl⟩
  obtain ⟨Z, hZ⟩ : ∃ Z : List Value, Z = (Builtin.zeroCells (Value.agg #[.string .empty, .int .i64 0, .int .i64 0, .float .f64 0, .string .empty, .bool false]).cells (l.length + 1 - i) ++ Builtin.zeroCells (Value.agg #[.string .empty, .int .i64 0, .int .i64 0, .float .f64 0, .string .empty, .bool false]).cells (G - (l.length + 1))).toList := ⟨_, rfl⟩
  have hrz : ∀ ty, (Builtin.append_ #[29, 3] ty #[.slice (some ⟨g, 0, none⟩) i cap, .int .i64 ((l.length : Int) + 1 - (i : Int))]).run Try.prog w =
      .ok (.slice (some ⟨w.heap.size, 0, none⟩) (l.length + 1) G) (w.drew.alloc (.cells (flatA (l.take i) ++ Z).toArray 76)) := fun ty => by
    have h := Lib.run_append_grow_zeros w 29 3 ty 76 i0 _ .i64 .i64 Try.underlying29 Try.underlying3 hi0 hzz (some ⟨g, 0, none⟩) i cap (flatA (l.take i)) hold (l.length + 1 - i) (by omega) (by omega) (by omega) (by omega) (by rw [hzb]; omega) (by rw [hzb, hik]; exact growslice_fits (by omega) (by omega))
    rw [hik] at h
    rw [hkk, h, hZ, hG]
    congr 3
    apply Array.toList_inj.1
    simp
  have hGn : l.length + 1 ≤ G := by rw [hG]; exact grownCap_ge w _ _ _
  have hGm : G ≤ maxLen := by rw [hG]; exact grownCap_le_maxLen w (l.length + 1) cap 76 (by unfold maxLen; omega)
  have hG63 : G ≤ 9223372036854775807 := by have := hGm; unfold maxLen at this; omega
  have hZl : (flatA (l.take i) ++ Z).length = G * 6 := by
    rw [List.length_append, htl, hZ, Array.length_toList, Array.size_append, size_zeroCells, size_zeroCells, zero_attr_cells]
    omega
  clear hZ hG
  obtain ⟨R, hR⟩ : ∃ R, R = flatA (l.take i) ++ Z := ⟨_, rfl⟩
  rw [← hR] at hrz hZl
  obtain ⟨W1, hW1⟩ : ∃ W1, W1 = w.drew.alloc (.cells R.toArray 76) := ⟨_, rfl⟩
  have hW1g : W1.heap[w.heap.size]? = some (.cells R.toArray 76 (0, 0)) := by rw [hW1]; exact heap_alloc_new w.drew _
  have hO : ∀ b j, b < w.heap.size → W1.cell? ⟨b, j, none⟩ = w.cell? ⟨b, j, none⟩ := fun b j h => by rw [hW1, World.cell?_alloc_past (w := w.drew) _ b j h]; rfl
  have hb1 : Below w.heap.size w W1 := by rw [hW1]; exact ((Below.refl w.heap.size w).drew).alloc (Nat.le_refl _) _
  rw [← hW1] at hrz
  have hcpA : ∀ (W : World), W.heap = W1.heap → ∀ ty dc, (Builtin.copy_ #[29, 29] ty #[.slice (some ⟨w.heap.size, i * 6, none⟩) (l.length + 1 - i) dc, .slice (some ⟨vb, 0, none⟩) 1 vc]).run Try.prog W = .ok (goInt (Nat.min 1 (l.length + 1 - i) : Nat)) (W.setRow w.heap.size (splice R (i * 6) (flatA [a])).toArray) := fun W hWh ty dc =>
    run_copy_rowN W _ _ ty 76 6 w.heap.size (i * 6) _ dc ⟨vb, 0, none⟩ _ vc R 76 (flatA [a]) Try.underlying29 hs6 (by rw [hWh]; exact hW1g) (by rw [h1l]; simp only [Nat.min_def]; split <;> omega)
      (fun j v hj => by
        rw [addj, show W.cell? ⟨vb, 0 + j, none⟩ = W1.cell? ⟨vb, 0 + j, none⟩ by simp [World.cell?, hWh], hO _ _ hvs]
        rw [cell_of_row w vb _ _ _ _ hv, List.getElem?_toArray, Nat.zero_add]; exact hj) (by rw [h1l, hZl]; omega) (flatA_one _)
  obtain ⟨X, hX⟩ : ∃ X, X = splice R (i * 6) (flatA [a]) := ⟨_, rfl⟩
  have hXl : X.length = G * 6 := by rw [hX, length_splice _ _ _ (by rw [h1l, hZl]; omega), hZl]
  rw [← hX] at hcpA
  have hcpB : ∀ (W : World), W.heap = (W1.setRow w.heap.size X.toArray).heap → ∀ ty dc sc, (Builtin.copy_ #[29, 29] ty #[.slice (some ⟨w.heap.size, (i + 1) * 6, none⟩) (l.length - i) dc, .slice (some ⟨g, i * 6, none⟩) (l.length - i) sc]).run Try.prog W = .ok (goInt (Nat.min (l.length - i) (l.length - i) : Nat)) (W.setRow w.heap.size (splice X ((i + 1) * 6) (flatA (l.drop i))).toArray) := fun W hWh ty dc sc =>
    run_copy_rowN W _ _ ty 76 6 w.heap.size ((i + 1) * 6) _ dc ⟨g, i * 6, none⟩ _ sc X 76 (flatA (l.drop i)) Try.underlying29 hs6 (by rw [hWh]; exact setRow_heap W1 _ _ _ _ _ hW1g) (by rw [hdl]; congr 1; simp only [Nat.min_def]; split <;> omega)
      (fun j v hj => by
        rw [addj, show W.cell? ⟨g, i * 6 + j, none⟩ = (W1.setRow w.heap.size X.toArray).cell? ⟨g, i * 6 + j, none⟩ by simp [World.cell?, hWh], cell_setRow_other _ _ _ _ (by show g ≠ w.heap.size; omega), hO _ _ hgs]
        refine hcell _ v ?_
        rwa [← flatA_drop l i (by omega), List.getElem?_drop] at hj) (by rw [hdl, hXl]; omega) (flatA_one _)
  have hfin : ∀ (W : World), W.heap = (W1.setRow w.heap.size X.toArray).heap → (W.setRow w.heap.size (splice X ((i + 1) * 6) (flatA (l.drop i))).toArray).heap[w.heap.size]? = some (.cells (splice X ((i + 1) * 6) (flatA (l.drop i))).toArray 76 (0, 0)) := fun W hWh =>
    setRow_heap W _ _ _ _ _ (by rw [hWh]; exact setRow_heap W1 _ _ _ _ _ hW1g)
  have hbf : ∀ (W : World), Below w.heap.size w W → Below w.heap.size w (W.setRow w.heap.size (splice X ((i + 1) * 6) (flatA (l.drop i))).toArray) := fun W h => below_setRow h (Nat.le_refl _) _
  have hbX : Below w.heap.size w (W1.setRow w.heap.size X.toArray) := below_setRow hb1 (Nat.le_refl _) _
  have hw1 : IntKind.i64.wrap ((i : Int) + 1) = (i : Int) + 1 := by rw [IntKind.wrap_i64]; omega
  have hp1 : (0 : Int) ≤ (i : Int) + 1 := by omega
  have htn : ((i : Int) + 1).toNat = i + 1 := by omega
  have hb3 : (i : Int) ≤ (l.length : Int) := by omega
  have hGi : ¬ (G = i) := by omega
  have hGim : ¬ (G = i + 1) := by omega
  have hci : ¬ (cap = i) := by omega
  have hin : i ≤ l.length := by omega
  have HX := Lib.hid hX; have HR := Lib.hid hR; have HZL := Lib.hid hZl; have HFIN := Lib.hid hfin; have HBF := Lib.hid hbf; have HBX := Lib.hid hbX
  clear hX hR hZl hfin hbf hbX hkk hik hold hcell hdl htl h1l hs6 ht hXl hg hv hO hb1 hW1g
  subst hW1
  go_enter Try.func44, Try.ntmps44
  go_wp2_with (first
    | (at_builtin; refine Lib.wpList_append_run _ rfl _ _ _ _ rfl _ _ rfl rfl _ _ (hrz _) ?_)
    | (with_reducible refine wpList_copy_runI _ rfl (.tmp 43) (.tmp 44) 29 29 rfl _ _ rfl rfl (hcpA _ (by with_unfolding_all rfl) _ _) ?_))
  go_region_law (refine step_copy_runI rfl _ _ 29 29 rfl _ _ (by simp [Act.eval, Act.put]) (by simp [Act.eval, Act.put]) (hcpB ((w.alloc (.cells R.toArray 76)).drew.setRow w.heap.size X.toArray).drew rfl 3 (G - (i + 1)) (cap - i)) ?_)
  go_wp2
  go_ret
  refine ⟨G, Z, by omega, hGm, by rw [← HR.out]; exact HZL.out, rfl, ?_, ?_⟩
  · rw [← HR.out, ← HX.out]; exact HFIN.out _ rfl
  · exact HBF.out _ HBX.out.drew
theorem grown_of_below {w w' : World} (h : Below w.heap.size w w') (row : Option Nat) : w.grownBy w' row := by
  obtain ⟨h1, h2, h3, h4, h5⟩ := h
  exact ⟨h1, h2, h3, h4, fun k hk _ => h5 k hk⟩
theorem insert_any (a0 : Option Addr) (cap : Nat) (l : List A) (a : A) (i vb vc base : Nat) (tv : TypeId) (w : World) (hown : w.ownsRow base 76 6 (.slice a0 l.length cap) l.length (flatA l)) (hba : base ≤ w.heap.size) (hlm : l.length ≤ 1000000) (hi : i ≤ l.length)
    (hv : w.heap[vb]? = some (.cells (flatA [a]).toArray tv (0, 0))) (hne : (Value.slice a0 l.length cap).ownBlock ≠ some vb) :
    Calls Try.prog 44 #[.slice a0 l.length cap, .int .i64 i, .slice (some ⟨vb, 0, none⟩) 1 vc] w fun e w' =>
      ∃ v', e = .returned v' ∧ w'.ownsRow base 76 6 v' (l.length + 1) (flatA (l.take i ++ a :: l.drop i)) ∧ w.grownBy w' (Value.slice a0 l.length cap).ownBlock := by
  by_cases hil : i = l.length
  · subst hil
    have ha : AAt w ⟨vb, 0, none⟩ a := by
      refine ⟨?_, ?_, ?_, ?_, ?_, ?_⟩ <;> (rw [cell_of_row w vb _ _ _ _ hv]; rfl)
    refine (insert_end a0 cap l a vb 0 vc base w hown hba hlm ha).mono ?_
    rintro e w' ⟨v', h1, h2, h3⟩
    refine ⟨v', h1, ?_, h3⟩
    rw [List.take_length, List.drop_length]
    simpa using h2
  · have hlt : i < l.length := by omega
    rcases hown.2 with ⟨_, h0⟩ | ⟨g, cp, cur, he, hbg, hg, hnc, hcm, hcs, htk⟩
    · omega
    · obtain ⟨rfl, _, rfl⟩ : a0 = some ⟨g, 0, none⟩ ∧ True ∧ cap = cp := by cases he; exact ⟨rfl, trivial, rfl⟩
      have hg' : w.heap[g]? = some (.cells cur.toList.toArray 76 (0, 0)) := by rw [Array.toArray_toList]; exact hg
      have hlen : (flatA (l.take i ++ a :: l.drop i)).length = (l.length + 1) * 6 := by
        rw [flatA_len]; congr 1
        simp only [List.length_append, List.length_take, List.length_cons, List.length_drop]; omega
      have htl : (l.take i ++ a :: l.drop i).length = l.length + 1 := by
        simp only [List.length_append, List.length_take, List.length_cons, List.length_drop]; omega
      by_cases hroom : l.length + 1 ≤ cap
      · obtain ⟨r1, r2⟩ := row_shift l a i cap cur.toList hlt hroom (by simpa using hcs) htk
        refine (insert_room g cap vb vc i l a cur.toList tv w hlt hroom (by unfold maxLen at hcm; omega) hg' (by simpa using hcs) htk hv (fun e => hne (by rw [e]; rfl))).mono ?_
        rintro e w' ⟨rfl, rfl⟩
        refine ⟨_, rfl, ⟨hlen, .inr ⟨g, cap, _, rfl, hbg, setRow_heap _ g _ _ _ _ (setRow_heap w.drew g _ _ _ _ hg'), hroom, hcm, ?_, ?_⟩⟩, ?_⟩
        · simpa using r1
        · rw [List.toList_toArray, ← htl]; exact r2
        · exact ⟨rfl, rfl, rfl, by simp [World.setRow], fun k _ hk => by
            have hkg : k ≠ g := fun e => hk (by rw [e]; rfl)
            rw [setRow_other _ g k _ hkg, setRow_other _ g k _ hkg]; rfl⟩
      · refine (insert_grow g cap vb vc i l a cur.toList tv w hlt hlm hnc (by omega) hg' htk hv).mono ?_
        rintro e w' ⟨G, Z, q1, q2, q3, rfl, q4, q5⟩
        obtain ⟨r1, r2⟩ := row_grow l a i G Z hlt q1 q3
        refine ⟨_, rfl, ⟨hlen, .inr ⟨w.heap.size, G, _, rfl, hba, q4, q1, q2, ?_, ?_⟩⟩, grown_of_below q5 _⟩
        · simpa using r1
        · rw [List.toList_toArray, ← htl]; exact r2
end Go.Proofs.Ytpbdgbejcdncgaa.Val
