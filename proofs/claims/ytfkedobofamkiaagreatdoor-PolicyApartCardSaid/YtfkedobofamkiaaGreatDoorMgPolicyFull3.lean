/- MERGED BY A PROGRAM OF MINE (mg.py) out of my own texts, in their order: Sort2, Sort3, Need. -/
import Derived.Test.YtfkedobofamkiaaGreatDoorMgPolicyFull2

section
/- THE WALK OF the library's insertion sort over a row of conditions, and of SortStableFunc at a short row. -/
namespace Go.Proofs.YtfkedobofamkiaaGreatDoor.Val
open Go.RowKit Flt
theorem so_below {x y : C} {g j m : Nat} {wr w1 w2 : World} (hb : Below w1.heap.size w1 w2) (h : w1.cell? ⟨g, m * 7, none⟩ = some (.string ⟨x.name.toArray⟩) ∧ w1.cell? ⟨g, m * 7 + 1, none⟩ = some (.int .i64 x.op) ∧ w1.cell? ⟨g, m * 7 + 2, none⟩ = some (.int .i64 x.val.kind) ∧ w1.cell? ⟨g, m * 7 + 3, none⟩ = some (.int .i64 x.val.int) ∧ w1.cell? ⟨g, m * 7 + 4, none⟩ = some (.float .f64 x.val.num) ∧ w1.cell? ⟨g, m * 7 + 5, none⟩ = some (.string ⟨x.val.text.toArray⟩) ∧ w1.cell? ⟨g, m * 7 + 6, none⟩ = some (.bool x.val.yes) ∧ w1.cell? ⟨g, j * 7, none⟩ = some (.string ⟨y.name.toArray⟩) ∧ w1.cell? ⟨g, j * 7 + 1, none⟩ = some (.int .i64 y.op) ∧ w1.cell? ⟨g, j * 7 + 2, none⟩ = some (.int .i64 y.val.kind) ∧ w1.cell? ⟨g, j * 7 + 3, none⟩ = some (.int .i64 y.val.int) ∧ w1.cell? ⟨g, j * 7 + 4, none⟩ = some (.float .f64 y.val.num) ∧ w1.cell? ⟨g, j * 7 + 5, none⟩ = some (.string ⟨y.val.text.toArray⟩) ∧ w1.cell? ⟨g, j * 7 + 6, none⟩ = some (.bool y.val.yes) ∧ Below wr.heap.size wr w1 ∧ g < w1.heap.size) :
    w2.cell? ⟨g, m * 7, none⟩ = some (.string ⟨x.name.toArray⟩) ∧ w2.cell? ⟨g, m * 7 + 1, none⟩ = some (.int .i64 x.op) ∧ w2.cell? ⟨g, m * 7 + 2, none⟩ = some (.int .i64 x.val.kind) ∧ w2.cell? ⟨g, m * 7 + 3, none⟩ = some (.int .i64 x.val.int) ∧ w2.cell? ⟨g, m * 7 + 4, none⟩ = some (.float .f64 x.val.num) ∧ w2.cell? ⟨g, m * 7 + 5, none⟩ = some (.string ⟨x.val.text.toArray⟩) ∧ w2.cell? ⟨g, m * 7 + 6, none⟩ = some (.bool x.val.yes) ∧ w2.cell? ⟨g, j * 7, none⟩ = some (.string ⟨y.name.toArray⟩) ∧ w2.cell? ⟨g, j * 7 + 1, none⟩ = some (.int .i64 y.op) ∧ w2.cell? ⟨g, j * 7 + 2, none⟩ = some (.int .i64 y.val.kind) ∧ w2.cell? ⟨g, j * 7 + 3, none⟩ = some (.int .i64 y.val.int) ∧ w2.cell? ⟨g, j * 7 + 4, none⟩ = some (.float .f64 y.val.num) ∧ w2.cell? ⟨g, j * 7 + 5, none⟩ = some (.string ⟨y.val.text.toArray⟩) ∧ w2.cell? ⟨g, j * 7 + 6, none⟩ = some (.bool y.val.yes) ∧ Below wr.heap.size wr w2 ∧ g < w2.heap.size := by
  obtain ⟨h0, h1, h2, h3, h4, h5, h6, h7, h8, h9, h10, h11, h12, h13, hB, hl⟩ := h
  have c : ∀ o, w2.cell? ⟨g, o, none⟩ = w1.cell? ⟨g, o, none⟩ := fun o => hb.cell (p := ⟨g, o, none⟩) hl
  exact ⟨(c _).trans h0, (c _).trans h1, (c _).trans h2, (c _).trans h3, (c _).trans h4, (c _).trans h5, (c _).trans h6, (c _).trans h7, (c _).trans h8, (c _).trans h9, (c _).trans h10, (c _).trans h11, (c _).trans h12, (c _).trans h13, btrans hB hb, Nat.lt_of_lt_of_le hl hb.size⟩
set_option maxHeartbeats 400000 in
theorem so_start {M : List C} {Z : List Value} {g j m : Nat} {wr : World} (h : Row wr g M Z) (hj : m < M.length) (hj2 : j < M.length) : wr.drew.cell? ⟨g, m * 7, none⟩ = some (.string ⟨(M[m]'hj).name.toArray⟩) ∧ wr.drew.cell? ⟨g, m * 7 + 1, none⟩ = some (.int .i64 (M[m]'hj).op) ∧ wr.drew.cell? ⟨g, m * 7 + 2, none⟩ = some (.int .i64 (M[m]'hj).val.kind) ∧ wr.drew.cell? ⟨g, m * 7 + 3, none⟩ = some (.int .i64 (M[m]'hj).val.int) ∧ wr.drew.cell? ⟨g, m * 7 + 4, none⟩ = some (.float .f64 (M[m]'hj).val.num) ∧ wr.drew.cell? ⟨g, m * 7 + 5, none⟩ = some (.string ⟨(M[m]'hj).val.text.toArray⟩) ∧ wr.drew.cell? ⟨g, m * 7 + 6, none⟩ = some (.bool (M[m]'hj).val.yes) ∧ wr.drew.cell? ⟨g, j * 7, none⟩ = some (.string ⟨(M[j]'hj2).name.toArray⟩) ∧ wr.drew.cell? ⟨g, j * 7 + 1, none⟩ = some (.int .i64 (M[j]'hj2).op) ∧ wr.drew.cell? ⟨g, j * 7 + 2, none⟩ = some (.int .i64 (M[j]'hj2).val.kind) ∧ wr.drew.cell? ⟨g, j * 7 + 3, none⟩ = some (.int .i64 (M[j]'hj2).val.int) ∧ wr.drew.cell? ⟨g, j * 7 + 4, none⟩ = some (.float .f64 (M[j]'hj2).val.num) ∧ wr.drew.cell? ⟨g, j * 7 + 5, none⟩ = some (.string ⟨(M[j]'hj2).val.text.toArray⟩) ∧ wr.drew.cell? ⟨g, j * 7 + 6, none⟩ = some (.bool (M[j]'hj2).val.yes) ∧ Below wr.heap.size wr wr.drew ∧ g < wr.drew.heap.size := by
  have a := h.cat m hj
  have b := h.cat j hj2
  obtain ⟨a0, a1, a2, a3, a4, a5, a6⟩ := a
  obtain ⟨b0, b1, b2, b3, b4, b5, b6⟩ := b
  exact ⟨a0, a1, a2, a3, a4, a5, a6, b0, b1, b2, b3, b4, b5, b6, bdrewN (Below.refl _ _) 1, h.lt⟩
theorem row_drew {w : World} {g : Nat} {l : List C} {Z : List Value} (h : Row w g l Z) : Row w.drew g l Z := h
theorem so_own {x y : C} {g j m : Nat} {wr w1 : World} (h : w1.cell? ⟨g, m * 7, none⟩ = some (.string ⟨x.name.toArray⟩) ∧ w1.cell? ⟨g, m * 7 + 1, none⟩ = some (.int .i64 x.op) ∧ w1.cell? ⟨g, m * 7 + 2, none⟩ = some (.int .i64 x.val.kind) ∧ w1.cell? ⟨g, m * 7 + 3, none⟩ = some (.int .i64 x.val.int) ∧ w1.cell? ⟨g, m * 7 + 4, none⟩ = some (.float .f64 x.val.num) ∧ w1.cell? ⟨g, m * 7 + 5, none⟩ = some (.string ⟨x.val.text.toArray⟩) ∧ w1.cell? ⟨g, m * 7 + 6, none⟩ = some (.bool x.val.yes) ∧ w1.cell? ⟨g, j * 7, none⟩ = some (.string ⟨y.name.toArray⟩) ∧ w1.cell? ⟨g, j * 7 + 1, none⟩ = some (.int .i64 y.op) ∧ w1.cell? ⟨g, j * 7 + 2, none⟩ = some (.int .i64 y.val.kind) ∧ w1.cell? ⟨g, j * 7 + 3, none⟩ = some (.int .i64 y.val.int) ∧ w1.cell? ⟨g, j * 7 + 4, none⟩ = some (.float .f64 y.val.num) ∧ w1.cell? ⟨g, j * 7 + 5, none⟩ = some (.string ⟨y.val.text.toArray⟩) ∧ w1.cell? ⟨g, j * 7 + 6, none⟩ = some (.bool y.val.yes) ∧ Below wr.heap.size wr w1 ∧ g < w1.heap.size) : Below wr.heap.size wr w1 := h.2.2.2.2.2.2.2.2.2.2.2.2.2.2.1
attribute [local go_sem] run_store_flt
set_option maxRecDepth 20000 in
set_option maxHeartbeats 1000000 in
theorem insertion_any (L : List C) (Z : List Value) (g cap : Nat) (ws w : World) (hw : Words ws) (hT : Tab.Tabs ws) (hgs : ws.heap.size ≤ g) (hbs : Below ws.heap.size ws w) (hr : Row w g L Z) (hs : ∀ x ∈ L, CSmall x) (hl : L.length ≤ 1000) (h1 : 1 ≤ L.length) :
    Calls Tryz.prog 48 #[.slice (some ⟨g, 0, none⟩) L.length cap, .int .i64 0, .int .i64 (L.length : Nat), .func (.func 28) #[] #[]] w fun e w' =>
      e = .returned (.tuple #[]) ∧ Row w' g (isort L (L.length - 1)) Z ∧ Below g w w' := by
  have HR := Lib.hid hr; have HS := Lib.hid hs; have HW := Lib.hid hw; have HT := Lib.hid hT; have HBS := Lib.hid hbs
  clear hr hs hw hT hbs
  go_enter Tryz.func48, Tryz.ntmps48
  go_wp2_with fail
  go_loopw [8] (fun vi wr => ∃ i : Nat, 1 ≤ i ∧ i ≤ L.length ∧ vi = .int .i64 i ∧ Row wr g (isort L (i - 1)) Z ∧ Below g w wr) (fun vi _ => L.length + 1 - (intOf vi).toNat)
  case atStart => exact ⟨1, Nat.le_refl _, h1, rfl, HR.out, Below.refl _ _⟩
  case round =>
    obtain ⟨i, hi1, hi2, rfl, hrow, hbr⟩ := hrel
    by_cases hlt : i < L.length
    · have q1 : (i : Int) < (L.length : Int) := by omega
      have HROW := Lib.hid hrow; have HBR := Lib.hid hbr
      clear hrow hbr
      generalize wr = WE at *
      go_wp2_with fail
      go_loopw [9] (fun vj wr => ∃ (j : Nat) (M : List C), j ≤ i ∧ M.length = L.length ∧ vj = .int .i64 j ∧ Row wr g M Z ∧ Hid (bub M j = isort L i) ∧ Hid (∀ x ∈ M, x ∈ L) ∧ Below g w wr) (fun vj _ => (intOf vj).toNat)
      case atStart =>
        obtain ⟨k, rfl⟩ : ∃ k, i = k + 1 := ⟨i - 1, by omega⟩
        exact ⟨k + 1, isort L k, Nat.le_refl _, isort_len L k, rfl, HROW.out, Lib.hid rfl, Lib.hid (isort_mem L k (by omega)), HBR.out⟩
      case round =>
        obtain ⟨j, M, hji, hM, rfl, hrow, HB, HMEM, hbr⟩ := hrel
        cases j with
        | zero =>
          go_wp2_with fail
          refine wp_region_held_drew (S := (fun w' => w' = wr.drew)) (by kernel_rfl) ?_ (fun hq0 => ?_)
          · ((try dsimp only); all_goals (first | rfl | assumption))
          (refine wpAnyH_take (i := 0) (oi := ?_) (v := ?_) ?_ (by kernel_rfl) (by kernel_rfl) (by kernel_rfl) ?_ (Or.inl ⟨?_, ?_⟩) (by assumption) ?_; rotate_left 2; (· (simp only [List.getElem?_toArray, List.getElem?_cons_zero]; first | done | rfl)); (· exact (fun _ _ _ h => h)); (· rfl); (· (intro w hSw; (try dsimp only at hSw); go_simp; (try with_reducible rfl))))
          (try simp only [Act.put, List.setIfInBounds_toArray, List.set_cons_zero, List.set_cons_succ])
          (refine wpAnyH_take (i := 1) (oi := ?_) (v := ?_) ?_ (by kernel_rfl) (by kernel_rfl) (by kernel_rfl) ?_ (Or.inl ⟨?_, ?_⟩) (by assumption) ?_; rotate_left 2; (· (simp only [List.getElem?_toArray, List.getElem?_cons_succ, List.getElem?_cons_zero]; first | done | rfl)); (· exact (fun _ _ _ h => h)); (· rfl); (· (intro w hSw; (try dsimp only at hSw); go_simp; (try with_reducible rfl))))
          (try simp only [Act.put, List.setIfInBounds_toArray, List.set_cons_zero, List.set_cons_succ])
          (refine wpAnyH_take (i := 2) (oi := ?_) (v := ?_) ?_ (by kernel_rfl) (by kernel_rfl) (by kernel_rfl) ?_ (Or.inl ⟨?_, ?_⟩) (by assumption) ?_; rotate_left 2; (· (simp only [List.getElem?_toArray, List.getElem?_cons_succ, List.getElem?_cons_zero]; first | done | rfl)); (· exact (fun _ _ _ h => h)); (· rfl); (· (intro w hSw; (try dsimp only at hSw); go_simp; (try with_reducible rfl))))
          (try simp only [Act.put, List.setIfInBounds_toArray, List.set_cons_zero, List.set_cons_succ])
          (refine wpAnyH_take (i := 3) (oi := ?_) (v := ?_) ?_ (by kernel_rfl) (by kernel_rfl) (by kernel_rfl) ?_ (Or.inl ⟨?_, ?_⟩) (by assumption) ?_; rotate_left 2; (· (simp only [List.getElem?_toArray, List.getElem?_cons_succ, List.getElem?_cons_zero]; first | done | rfl)); (· exact (fun _ _ _ h => h)); (· rfl); (· (intro w hSw; (try dsimp only at hSw); go_simp; (try with_reducible rfl))))
          (try simp only [Act.put, List.setIfInBounds_toArray, List.set_cons_zero, List.set_cons_succ])
          (refine wpAnyH_take (i := 4) (oi := ?_) (v := ?_) ?_ (by kernel_rfl) (by kernel_rfl) (by kernel_rfl) ?_ (Or.inr ⟨?_, ?_⟩) (by assumption) ?_; rotate_left 2; (· (simp only [List.getElem?_toArray, List.getElem?_cons_succ, List.getElem?_cons_zero]; first | done | rfl)); (· exact (fun _ _ _ h => h)); (· rfl); (· rfl))
          (try simp only [Act.put, List.setIfInBounds_toArray, List.set_cons_zero, List.set_cons_succ])
          (refine wpAnyH_take (i := 5) (oi := ?_) (v := ?_) ?_ (by kernel_rfl) (by kernel_rfl) (by kernel_rfl) ?_ (Or.inr ⟨?_, ?_⟩) (by assumption) ?_; rotate_left 2; (· (simp only [List.getElem?_toArray, List.getElem?_cons_succ, List.getElem?_cons_zero]; first | done | rfl)); (· exact (fun _ _ _ h => h)); (· rfl); (· rfl))
          (try simp only [Act.put, List.setIfInBounds_toArray, List.set_cons_zero, List.set_cons_succ])
          (refine wpAnyH_take (i := 6) (oi := ?_) (v := ?_) ?_ (by kernel_rfl) (by kernel_rfl) (by kernel_rfl) ?_ (Or.inr ⟨?_, ?_⟩) (by assumption) ?_; rotate_left 2; (· (simp only [List.getElem?_toArray, List.getElem?_cons_succ, List.getElem?_cons_zero]; first | done | rfl)); (· exact (fun _ _ _ h => h)); (· rfl); (· rfl))
          (try simp only [Act.put, List.setIfInBounds_toArray, List.set_cons_zero, List.set_cons_succ])
          (refine wpAnyH_take (i := 7) (oi := ?_) (v := ?_) ?_ (by kernel_rfl) (by kernel_rfl) (by kernel_rfl) ?_ (Or.inr ⟨?_, ?_⟩) (by assumption) ?_; rotate_left 2; (· (simp only [List.getElem?_toArray, List.getElem?_cons_succ, List.getElem?_cons_zero]; first | done | rfl)); (· exact (fun _ _ _ h => h)); (· rfl); (· rfl))
          (try simp only [Act.put, List.setIfInBounds_toArray, List.set_cons_zero, List.set_cons_succ])
          (refine wpAnyH_take (i := 8) (oi := ?_) (v := ?_) ?_ (by kernel_rfl) (by kernel_rfl) (by kernel_rfl) ?_ (Or.inr ⟨?_, ?_⟩) (by assumption) ?_; rotate_left 2; (· (simp only [List.getElem?_toArray, List.getElem?_cons_succ, List.getElem?_cons_zero]; first | done | rfl)); (· exact (fun _ _ _ h => h)); (· rfl); (· rfl))
          (try simp only [Act.put, List.setIfInBounds_toArray, List.set_cons_zero, List.set_cons_succ])
          (refine wpAnyH_take (i := 9) (oi := ?_) (v := ?_) ?_ (by kernel_rfl) (by kernel_rfl) (by kernel_rfl) ?_ (Or.inr ⟨?_, ?_⟩) (by assumption) ?_; rotate_left 2; (· (simp only [List.getElem?_toArray, List.getElem?_cons_succ, List.getElem?_cons_zero]; first | done | rfl)); (· exact (fun _ _ _ h => h)); (· rfl); (· rfl))
          (try simp only [Act.put, List.setIfInBounds_toArray, List.set_cons_zero, List.set_cons_succ])
          (refine wpAnyH_take (i := 10) (oi := ?_) (v := ?_) ?_ (by kernel_rfl) (by kernel_rfl) (by kernel_rfl) ?_ (Or.inr ⟨?_, ?_⟩) (by assumption) ?_; rotate_left 2; (· (simp only [List.getElem?_toArray, List.getElem?_cons_succ, List.getElem?_cons_zero]; first | done | rfl)); (· exact (fun _ _ _ h => h)); (· rfl); (· rfl))
          (try simp only [Act.put, List.setIfInBounds_toArray, List.set_cons_zero, List.set_cons_succ])
          (refine wpAnyH_take (i := 11) (oi := ?_) (v := ?_) ?_ (by kernel_rfl) (by kernel_rfl) (by kernel_rfl) ?_ (Or.inr ⟨?_, ?_⟩) (by assumption) ?_; rotate_left 2; (· (simp only [List.getElem?_toArray, List.getElem?_cons_succ, List.getElem?_cons_zero]; first | done | rfl)); (· exact (fun _ _ _ h => h)); (· rfl); (· rfl))
          (try simp only [Act.put, List.setIfInBounds_toArray, List.set_cons_zero, List.set_cons_succ])
          (refine wpAnyH_take (i := 12) (oi := ?_) (v := ?_) ?_ (by kernel_rfl) (by kernel_rfl) (by kernel_rfl) ?_ (Or.inr ⟨?_, ?_⟩) (by assumption) ?_; rotate_left 2; (· (simp only [List.getElem?_toArray, List.getElem?_cons_succ, List.getElem?_cons_zero]; first | done | rfl)); (· exact (fun _ _ _ h => h)); (· rfl); (· rfl))
          (try simp only [Act.put, List.setIfInBounds_toArray, List.set_cons_zero, List.set_cons_succ])
          (refine wpAnyH_take (i := 13) (oi := ?_) (v := ?_) ?_ (by kernel_rfl) (by kernel_rfl) (by kernel_rfl) ?_ (Or.inr ⟨?_, ?_⟩) (by assumption) ?_; rotate_left 2; (· (simp only [List.getElem?_toArray, List.getElem?_cons_succ, List.getElem?_cons_zero]; first | done | rfl)); (· exact (fun _ _ _ h => h)); (· rfl); (· rfl))
          (try simp only [Act.put, List.setIfInBounds_toArray, List.set_cons_zero, List.set_cons_succ])
          (refine wpAnyH_take (i := 14) (oi := ?_) (v := ?_) ?_ (by kernel_rfl) (by kernel_rfl) (by kernel_rfl) ?_ (Or.inr ⟨?_, ?_⟩) (by assumption) ?_; rotate_left 2; (· (simp only [List.getElem?_toArray, List.getElem?_cons_succ, List.getElem?_cons_zero]; first | done | rfl)); (· exact (fun _ _ _ h => h)); (· rfl); (· rfl))
          (try simp only [Act.put, List.setIfInBounds_toArray, List.set_cons_zero, List.set_cons_succ])
          (refine wpAnyH_take (i := 15) (oi := ?_) (v := ?_) ?_ (by kernel_rfl) (by kernel_rfl) (by kernel_rfl) ?_ (Or.inr ⟨?_, ?_⟩) (by assumption) ?_; rotate_left 2; (· (simp only [List.getElem?_toArray, List.getElem?_cons_succ, List.getElem?_cons_zero]; first | done | rfl)); (· exact (fun _ _ _ h => h)); (· rfl); (· rfl))
          (try simp only [Act.put, List.setIfInBounds_toArray, List.set_cons_zero, List.set_cons_succ])
          (refine wpAnyH_take (i := 16) (oi := ?_) (v := ?_) ?_ (by kernel_rfl) (by kernel_rfl) (by kernel_rfl) ?_ (Or.inl ⟨?_, ?_⟩) (by assumption) ?_; rotate_left 2; (· (simp only [List.getElem?_toArray, List.getElem?_cons_succ, List.getElem?_cons_zero]; first | done | rfl)); (· exact (fun _ _ _ h => h)); (· rfl); (· (intro w hSw; (try dsimp only at hSw); go_simp; (try with_reducible rfl))))
          (try simp only [Act.put, List.setIfInBounds_toArray, List.set_cons_zero, List.set_cons_succ])
          refine wpAnyH_done (by kernel_rfl) ?_ _
          go_wp2_with fail
          exact ⟨⟨i + 1, by omega, by omega, by go_num, by
            have e : isort L (i + 1 - 1) = M := HB.out.symm
            rw [e]; exact hrow, hbr.drew⟩, by simp [intOf]; go_num⟩
        | succ j =>
          obtain ⟨m, hm⟩ : ∃ m, m = j + 1 := ⟨_, rfl⟩
          rw [← hm] at hji HB ⊢
          have hmL : m < M.length := by omega
          have hjL : j < M.length := by omega
          have hst := so_start hrow (j := j) (m := m) hmL hjL
          have q2 : decide ((0 : Int) < (m : Int)) = true := by rw [decide_eq_true_iff]; omega
          have q2i : (0 : Int) < (m : Int) := by omega
          have q2n : 0 < m := by omega
          have q2d : decide (0 < m) = true := by rw [decide_eq_true_iff]; omega
          have q3 : (m : Int) < (L.length : Int) := by omega
          have q4 : (0 : Int) ≤ (m : Int) := by omega
          have q5 : (0 : Int) ≤ (j : Int) := by omega
          have q6 : (j : Int) < (L.length : Int) := by omega
          have q7 : (m : Int) - 1 = (j : Int) := by omega
          have q8 : IntKind.i64.wrap ((m : Int) - 1) = (j : Int) := by rw [IntKind.wrap_i64]; omega
          have q9 : IntKind.i64.wrap (j : Int) = (j : Int) := by rw [IntKind.wrap_i64]; omega
          have HST := Lib.hid hst; have HROW2 := Lib.hid hrow
          have hcm : ∀ W, Below wr.heap.size wr W → Calls Tryz.prog 28 #[cc (M[m]'hmL), cc (M[j]'hjL)] W fun e w' => e = .returned (.int .i64 (cmpC (M[m]'hmL) (M[j]'hjL))) ∧ Below W.heap.size W w' := fun W hb => by
            have hbs : Below ws.heap.size ws W := HBS.out.trans ((hbr.mono hgs).trans (hb.mono (by have := hrow.lt; omega)))
            exact cmp_any _ _ W (HW.out.below hbs) (HT.out.below hbs (Nat.le_refl _)) (HS.out _ (HMEM.out _ (List.getElem_mem _))) (HS.out _ (HMEM.out _ (List.getElem_mem _)))
          have HCM := Lib.hid hcm
          have HBR2 := Lib.hid hbr
          have hbub : bub M m = if cmpC (M[m]'hmL) (M[j]'hjL) < 0 then bub (swp M j) j else M := by
            subst hm
            rw [bub, getElem!_pos M (j + 1) hmL, getElem!_pos M j hjL]
          have HBUB := Lib.hid hbub; have HMJ := Lib.hid hm
          clear hst hcm hrow hbr hbub hm
          obtain ⟨x, hx⟩ : ∃ x, x = M[m]'hmL := ⟨_, rfl⟩
          obtain ⟨y, hy⟩ : ∃ y, y = M[j]'hjL := ⟨_, rfl⟩
          rw [← hx, ← hy] at HST HCM HBUB
          have HX := Lib.hid hx; have HY := Lib.hid hy
          clear hx hy
          generalize cmpC x y = cr at *
          have hcr : (cr < 0 ∧ decide (cr < 0) = true) ∨ (¬ cr < 0 ∧ decide (cr < 0) = false) := by
            by_cases h : cr < 0
            · exact .inl ⟨h, by simpa using h⟩
            · exact .inr ⟨h, by simpa using h⟩
          rcases hcr with ⟨z1, z2⟩ | ⟨z1, z2⟩
          · go_wp2_with fail
            refine wp_region_held_drew (S := (fun w' => w'.cell? ⟨g, m * 7, none⟩ = some (.string ⟨x.name.toArray⟩) ∧ w'.cell? ⟨g, m * 7 + 1, none⟩ = some (.int .i64 x.op) ∧ w'.cell? ⟨g, m * 7 + 2, none⟩ = some (.int .i64 x.val.kind) ∧ w'.cell? ⟨g, m * 7 + 3, none⟩ = some (.int .i64 x.val.int) ∧ w'.cell? ⟨g, m * 7 + 4, none⟩ = some (.float .f64 x.val.num) ∧ w'.cell? ⟨g, m * 7 + 5, none⟩ = some (.string ⟨x.val.text.toArray⟩) ∧ w'.cell? ⟨g, m * 7 + 6, none⟩ = some (.bool x.val.yes) ∧ w'.cell? ⟨g, j * 7, none⟩ = some (.string ⟨y.name.toArray⟩) ∧ w'.cell? ⟨g, j * 7 + 1, none⟩ = some (.int .i64 y.op) ∧ w'.cell? ⟨g, j * 7 + 2, none⟩ = some (.int .i64 y.val.kind) ∧ w'.cell? ⟨g, j * 7 + 3, none⟩ = some (.int .i64 y.val.int) ∧ w'.cell? ⟨g, j * 7 + 4, none⟩ = some (.float .f64 y.val.num) ∧ w'.cell? ⟨g, j * 7 + 5, none⟩ = some (.string ⟨y.val.text.toArray⟩) ∧ w'.cell? ⟨g, j * 7 + 6, none⟩ = some (.bool y.val.yes) ∧ Below wr.heap.size wr w' ∧ g < w'.heap.size)) (by kernel_rfl) ?_ (fun hq0 => ?_)
            · ((try dsimp only); (first | exact HST.out | assumption | exact so_below (by assumption) (by assumption)))
            (refine wpAnyH_take (i := 0) (oi := ?_) (v := ?_) ?_ (by kernel_rfl) (by kernel_rfl) (by kernel_rfl) ?_ (Or.inl ⟨?_, ?_⟩) (by assumption) ?_; rotate_left 2; (· (simp only [List.getElem?_toArray, List.getElem?_cons_zero]; first | done | rfl)); (· exact (fun _ _ _ h => h)); (· rfl); (· (intro w hSw; (try dsimp only at hSw); go_simp; (try with_reducible rfl))))
            (try simp only [Act.put, List.setIfInBounds_toArray, List.set_cons_zero, List.set_cons_succ])
            (refine wpAnyH_take (i := 1) (oi := ?_) (v := ?_) ?_ (by kernel_rfl) (by kernel_rfl) (by kernel_rfl) ?_ (Or.inl ⟨?_, ?_⟩) (by assumption) ?_; rotate_left 2; (· (simp only [List.getElem?_toArray, List.getElem?_cons_succ, List.getElem?_cons_zero]; first | done | rfl)); (· exact (fun _ _ _ h => h)); (· rfl); (· (intro w hSw; (try dsimp only at hSw); go_simp; (try with_reducible rfl))))
            (try simp only [Act.put, List.setIfInBounds_toArray, List.set_cons_zero, List.set_cons_succ])
            (refine wpAnyH_take (i := 2) (oi := ?_) (v := ?_) ?_ (by kernel_rfl) (by kernel_rfl) (by kernel_rfl) ?_ (Or.inl ⟨?_, ?_⟩) (by assumption) ?_; rotate_left 2; (· (simp only [List.getElem?_toArray, List.getElem?_cons_succ, List.getElem?_cons_zero]; first | done | rfl)); (· exact (fun _ _ _ h => h)); (· rfl); (· (intro w hSw; (try dsimp only at hSw); go_simp; (try with_reducible rfl))))
            (try simp only [Act.put, List.setIfInBounds_toArray, List.set_cons_zero, List.set_cons_succ])
            (refine wpAnyH_take (i := 3) (oi := ?_) (v := ?_) ?_ (by kernel_rfl) (by kernel_rfl) (by kernel_rfl) ?_ (Or.inl ⟨?_, ?_⟩) (by assumption) ?_; rotate_left 2; (· (simp only [List.getElem?_toArray, List.getElem?_cons_succ, List.getElem?_cons_zero]; first | done | rfl)); (· exact (fun _ _ _ h => h)); (· rfl); (· (intro w hSw; (try dsimp only at hSw); go_simp; (try with_reducible rfl))))
            (try simp only [Act.put, List.setIfInBounds_toArray, List.set_cons_zero, List.set_cons_succ])
            (refine wpAnyH_take (i := 4) (oi := ?_) (v := ?_) ?_ (by kernel_rfl) (by kernel_rfl) (by kernel_rfl) ?_ (Or.inl ⟨?_, ?_⟩) (by assumption) ?_; rotate_left 2; (· (simp only [List.getElem?_toArray, List.getElem?_cons_succ, List.getElem?_cons_zero]; first | done | rfl)); (· exact (fun _ _ _ h => h)); (· rfl); (· (intro w hSw; (try dsimp only at hSw); go_simp; (try with_reducible rfl))))
            (try simp only [Act.put, List.setIfInBounds_toArray, List.set_cons_zero, List.set_cons_succ])
            (refine wpAnyH_take (i := 5) (oi := ?_) (v := ?_) ?_ (by kernel_rfl) (by kernel_rfl) (by kernel_rfl) ?_ (Or.inl ⟨?_, ?_⟩) (by assumption) ?_; rotate_left 2; (· (simp only [List.getElem?_toArray, List.getElem?_cons_succ, List.getElem?_cons_zero]; first | done | rfl)); (· exact (fun _ _ _ h => h)); (· rfl); (· (intro w hSw; (try dsimp only at hSw); go_simp; (try with_reducible rfl))))
            (try simp only [Act.put, List.setIfInBounds_toArray, List.set_cons_zero, List.set_cons_succ])
            (refine wpAnyH_take (i := 6) (oi := ?_) (v := ?_) ?_ (by kernel_rfl) (by kernel_rfl) (by kernel_rfl) ?_ (Or.inl ⟨?_, ?_⟩) (by assumption) ?_; rotate_left 2; (· (simp only [List.getElem?_toArray, List.getElem?_cons_succ, List.getElem?_cons_zero]; first | done | rfl)); (· exact (fun _ _ _ h => h)); (· rfl); (· (intro w hSw; (try dsimp only at hSw); go_simp; (try with_reducible rfl))))
            (try simp only [Act.put, List.setIfInBounds_toArray, List.set_cons_zero, List.set_cons_succ])
            (refine wpAnyH_take (i := 7) (oi := ?_) (v := ?_) ?_ (by kernel_rfl) (by kernel_rfl) (by kernel_rfl) ?_ (Or.inl ⟨?_, ?_⟩) (by assumption) ?_; rotate_left 2; (· (simp only [List.getElem?_toArray, List.getElem?_cons_succ, List.getElem?_cons_zero]; first | done | rfl)); (· exact (fun _ _ _ h => h)); (· rfl); (· (intro w hSw; (try dsimp only at hSw); go_simp; (try with_reducible rfl))))
            (try simp only [Act.put, List.setIfInBounds_toArray, List.set_cons_zero, List.set_cons_succ])
            (refine wpAnyH_take (i := 8) (oi := ?_) (v := ?_) ?_ (by kernel_rfl) (by kernel_rfl) (by kernel_rfl) ?_ (Or.inl ⟨?_, ?_⟩) (by assumption) ?_; rotate_left 2; (· (simp only [List.getElem?_toArray, List.getElem?_cons_succ, List.getElem?_cons_zero]; first | done | rfl)); (· exact (fun _ _ _ h => h)); (· rfl); (· (intro w hSw; (try dsimp only at hSw); go_simp; (try with_reducible rfl))))
            (try simp only [Act.put, List.setIfInBounds_toArray, List.set_cons_zero, List.set_cons_succ])
            (refine wpAnyH_take (i := 9) (oi := ?_) (v := ?_) ?_ (by kernel_rfl) (by kernel_rfl) (by kernel_rfl) ?_ (Or.inl ⟨?_, ?_⟩) (by assumption) ?_; rotate_left 2; (· (simp only [List.getElem?_toArray, List.getElem?_cons_succ, List.getElem?_cons_zero]; first | done | rfl)); (· exact (fun _ _ _ h => h)); (· rfl); (· (intro w hSw; (try dsimp only at hSw); go_simp; (try with_reducible rfl))))
            (try simp only [Act.put, List.setIfInBounds_toArray, List.set_cons_zero, List.set_cons_succ])
            (refine wpAnyH_take (i := 10) (oi := ?_) (v := ?_) ?_ (by kernel_rfl) (by kernel_rfl) (by kernel_rfl) ?_ (Or.inl ⟨?_, ?_⟩) (by assumption) ?_; rotate_left 2; (· (simp only [List.getElem?_toArray, List.getElem?_cons_succ, List.getElem?_cons_zero]; first | done | rfl)); (· exact (fun _ _ _ h => h)); (· rfl); (· (intro w hSw; (try dsimp only at hSw); go_simp; (try with_reducible rfl))))
            (try simp only [Act.put, List.setIfInBounds_toArray, List.set_cons_zero, List.set_cons_succ])
            (refine wpAnyH_take (i := 11) (oi := ?_) (v := ?_) ?_ (by kernel_rfl) (by kernel_rfl) (by kernel_rfl) ?_ (Or.inl ⟨?_, ?_⟩) (by assumption) ?_; rotate_left 2; (· (simp only [List.getElem?_toArray, List.getElem?_cons_succ, List.getElem?_cons_zero]; first | done | rfl)); (· exact (fun _ _ _ h => h)); (· rfl); (· (intro w hSw; (try dsimp only at hSw); go_simp; (try with_reducible rfl))))
            (try simp only [Act.put, List.setIfInBounds_toArray, List.set_cons_zero, List.set_cons_succ])
            (refine wpAnyH_take (i := 12) (oi := ?_) (v := ?_) ?_ (by kernel_rfl) (by kernel_rfl) (by kernel_rfl) ?_ (Or.inl ⟨?_, ?_⟩) (by assumption) ?_; rotate_left 2; (· (simp only [List.getElem?_toArray, List.getElem?_cons_succ, List.getElem?_cons_zero]; first | done | rfl)); (· exact (fun _ _ _ h => h)); (· rfl); (· (intro w hSw; (try dsimp only at hSw); go_simp; (try with_reducible rfl))))
            (try simp only [Act.put, List.setIfInBounds_toArray, List.set_cons_zero, List.set_cons_succ])
            (refine wpAnyH_take (i := 13) (oi := ?_) (v := ?_) ?_ (by kernel_rfl) (by kernel_rfl) (by kernel_rfl) ?_ (Or.inl ⟨?_, ?_⟩) (by assumption) ?_; rotate_left 2; (· (simp only [List.getElem?_toArray, List.getElem?_cons_succ, List.getElem?_cons_zero]; first | done | rfl)); (· exact (fun _ _ _ h => h)); (· rfl); (· (intro w hSw; (try dsimp only at hSw); go_simp; (try with_reducible rfl))))
            (try simp only [Act.put, List.setIfInBounds_toArray, List.set_cons_zero, List.set_cons_succ])
            refine wpAnyH_ready (rs := [14]) (by kernel_rfl) (by simp) ?_
            refine AllReadyH.cons (o := ?_) ?_ (fun K hK => ?_) AllReadyH.nil
            rotate_left 1
            · (simp only [List.getElem?_toArray, List.getElem?_cons_succ, List.getElem?_cons_zero]; first | done | rfl)
            go_simp
            first | (refine hK.out _ _ ?_ (fun hq1 => ?_)) | ((go_at_call 28; refine (HCM.out _ (so_own (by assumption))).mono ?_; rintro e w7 ⟨rfl, hb7⟩); refine hK.out _ _ ?_ (fun hq1 => ?_)) | ((go_at_call 28; refine (HCM.out _ (so_own (by assumption))).mono ?_; rintro e w7 ⟨rfl, hb7⟩); go_wp2_with fail; refine hK.out _ _ ?_ (fun hq1 => ?_)) | fail
            · ((try dsimp only); (first | exact HST.out | assumption | exact so_below (by assumption) (by assumption)))
            clear hK K
            (try simp only [Act.put, List.setIfInBounds_toArray, List.set_cons_zero, List.set_cons_succ])
            clear hq0
            (refine wpAnyH_take (i := 15) (oi := ?_) (v := ?_) ?_ (by kernel_rfl) (by kernel_rfl) (by kernel_rfl) ?_ (Or.inl ⟨?_, ?_⟩) (by assumption) ?_; rotate_left 2; (· (simp only [List.getElem?_toArray, List.getElem?_cons_succ, List.getElem?_cons_zero]; first | done | rfl)); (· exact (fun _ _ _ h => h)); (· rfl); (· (intro w hSw; (try dsimp only at hSw); go_simp; (try with_reducible rfl))))
            (try simp only [Act.put, List.setIfInBounds_toArray, List.set_cons_zero, List.set_cons_succ])
            (refine wpAnyH_take (i := 16) (oi := ?_) (v := ?_) ?_ (by kernel_rfl) (by kernel_rfl) (by kernel_rfl) ?_ (Or.inl ⟨?_, ?_⟩) (by assumption) ?_; rotate_left 2; (· (simp only [List.getElem?_toArray, List.getElem?_cons_succ, List.getElem?_cons_zero]; first | done | rfl)); (· exact (fun _ _ _ h => h)); (· rfl); (· (intro w hSw; (try dsimp only at hSw); go_simp; (try with_reducible rfl))))
            (try simp only [Act.put, List.setIfInBounds_toArray, List.set_cons_zero, List.set_cons_succ])
            refine wpAnyH_done (by kernel_rfl) ?_ _
            have hb17 := so_own hq1
            have hrow7 : Row w7 g M Z := HROW2.out.below hb17 HROW2.out.lt
            obtain ⟨v0, v1, v2, v3, v4, v5, v6, u0, u1, u2, u3, u4, u5, u6, _, _⟩ := hq1
            clear hb7
            have fm0 := hrow7.frz (m * 7)
            have fj0 := hrow7.frz (j * 7)
            have fm1 := hrow7.frz (m * 7 + 1)
            have fj1 := hrow7.frz (j * 7 + 1)
            have fm2 := hrow7.frz (m * 7 + 2)
            have fj2 := hrow7.frz (j * 7 + 2)
            have fm3 := hrow7.frz (m * 7 + 3)
            have fj3 := hrow7.frz (j * 7 + 3)
            have fm4 := hrow7.frz (m * 7 + 4)
            have fj4 := hrow7.frz (j * 7 + 4)
            have fm5 := hrow7.frz (m * 7 + 5)
            have fj5 := hrow7.frz (j * 7 + 5)
            have fm6 := hrow7.frz (m * 7 + 6)
            have fj6 := hrow7.frz (j * 7 + 6)
            have HROW7 := Lib.hid hrow7; have HB17 := Lib.hid hb17
            have hne : m ≠ j := by have := HMJ.out; omega
            clear hrow7 hb17 HCM HST
            go_wp2_with fail
            go_region
            go_wp2_with fail
            have hmj := HMJ.out
            have hr2 : Row (put7 (put7 w7 g (m * 7) y) g (j * 7) x) g ((M.set m y).set j x) Z := (HROW7.out.put m hmL y).put j (by rw [List.length_set]; exact hjL) x
            have hsw : (M.set m y).set j x = swp M j := by
              unfold swp
              rw [← hmj, getElem!_pos M j hjL, getElem!_pos M m hmL, ← HX.out, ← HY.out]
            rw [hsw] at hr2
            have hbp : Below g w7 (put7 (put7 w7 g (m * 7) y) g (j * 7) x) := (below_put7 (Nat.le_refl _) _ _).trans (below_put7 (Nat.le_refl _) _ _)
            have hr3 := row_drew hr2
            have hb3 := (((HBR2.out.trans (HB17.out.mono (Nat.le_of_lt HROW2.out.lt))).trans hbp)).drew
            unfold put7 at hr3 hb3
            have hmem : ∀ c ∈ swp M j, c ∈ L := fun c hc => HMEM.out _ (swp_mem (by omega) hc)
            have hbub2 : bub (swp M j) j = isort L i := by rw [← HB.out, HBUB.out, if_pos z1]
            exact ⟨⟨j, swp M j, by omega, by rw [swp_len]; exact hM, rfl, hr3, Lib.hid hbub2, Lib.hid hmem, hb3⟩, by simp [intOf]; omega⟩
          · go_wp2_with fail
            refine wp_region_held_drew (S := (fun w' => w'.cell? ⟨g, m * 7, none⟩ = some (.string ⟨x.name.toArray⟩) ∧ w'.cell? ⟨g, m * 7 + 1, none⟩ = some (.int .i64 x.op) ∧ w'.cell? ⟨g, m * 7 + 2, none⟩ = some (.int .i64 x.val.kind) ∧ w'.cell? ⟨g, m * 7 + 3, none⟩ = some (.int .i64 x.val.int) ∧ w'.cell? ⟨g, m * 7 + 4, none⟩ = some (.float .f64 x.val.num) ∧ w'.cell? ⟨g, m * 7 + 5, none⟩ = some (.string ⟨x.val.text.toArray⟩) ∧ w'.cell? ⟨g, m * 7 + 6, none⟩ = some (.bool x.val.yes) ∧ w'.cell? ⟨g, j * 7, none⟩ = some (.string ⟨y.name.toArray⟩) ∧ w'.cell? ⟨g, j * 7 + 1, none⟩ = some (.int .i64 y.op) ∧ w'.cell? ⟨g, j * 7 + 2, none⟩ = some (.int .i64 y.val.kind) ∧ w'.cell? ⟨g, j * 7 + 3, none⟩ = some (.int .i64 y.val.int) ∧ w'.cell? ⟨g, j * 7 + 4, none⟩ = some (.float .f64 y.val.num) ∧ w'.cell? ⟨g, j * 7 + 5, none⟩ = some (.string ⟨y.val.text.toArray⟩) ∧ w'.cell? ⟨g, j * 7 + 6, none⟩ = some (.bool y.val.yes) ∧ Below wr.heap.size wr w' ∧ g < w'.heap.size)) (by kernel_rfl) ?_ (fun hq0 => ?_)
            · ((try dsimp only); (first | exact HST.out | assumption | exact so_below (by assumption) (by assumption)))
            (refine wpAnyH_take (i := 0) (oi := ?_) (v := ?_) ?_ (by kernel_rfl) (by kernel_rfl) (by kernel_rfl) ?_ (Or.inl ⟨?_, ?_⟩) (by assumption) ?_; rotate_left 2; (· (simp only [List.getElem?_toArray, List.getElem?_cons_zero]; first | done | rfl)); (· exact (fun _ _ _ h => h)); (· rfl); (· (intro w hSw; (try dsimp only at hSw); go_simp; (try with_reducible rfl))))
            (try simp only [Act.put, List.setIfInBounds_toArray, List.set_cons_zero, List.set_cons_succ])
            (refine wpAnyH_take (i := 1) (oi := ?_) (v := ?_) ?_ (by kernel_rfl) (by kernel_rfl) (by kernel_rfl) ?_ (Or.inl ⟨?_, ?_⟩) (by assumption) ?_; rotate_left 2; (· (simp only [List.getElem?_toArray, List.getElem?_cons_succ, List.getElem?_cons_zero]; first | done | rfl)); (· exact (fun _ _ _ h => h)); (· rfl); (· (intro w hSw; (try dsimp only at hSw); go_simp; (try with_reducible rfl))))
            (try simp only [Act.put, List.setIfInBounds_toArray, List.set_cons_zero, List.set_cons_succ])
            (refine wpAnyH_take (i := 2) (oi := ?_) (v := ?_) ?_ (by kernel_rfl) (by kernel_rfl) (by kernel_rfl) ?_ (Or.inl ⟨?_, ?_⟩) (by assumption) ?_; rotate_left 2; (· (simp only [List.getElem?_toArray, List.getElem?_cons_succ, List.getElem?_cons_zero]; first | done | rfl)); (· exact (fun _ _ _ h => h)); (· rfl); (· (intro w hSw; (try dsimp only at hSw); go_simp; (try with_reducible rfl))))
            (try simp only [Act.put, List.setIfInBounds_toArray, List.set_cons_zero, List.set_cons_succ])
            (refine wpAnyH_take (i := 3) (oi := ?_) (v := ?_) ?_ (by kernel_rfl) (by kernel_rfl) (by kernel_rfl) ?_ (Or.inl ⟨?_, ?_⟩) (by assumption) ?_; rotate_left 2; (· (simp only [List.getElem?_toArray, List.getElem?_cons_succ, List.getElem?_cons_zero]; first | done | rfl)); (· exact (fun _ _ _ h => h)); (· rfl); (· (intro w hSw; (try dsimp only at hSw); go_simp; (try with_reducible rfl))))
            (try simp only [Act.put, List.setIfInBounds_toArray, List.set_cons_zero, List.set_cons_succ])
            (refine wpAnyH_take (i := 4) (oi := ?_) (v := ?_) ?_ (by kernel_rfl) (by kernel_rfl) (by kernel_rfl) ?_ (Or.inl ⟨?_, ?_⟩) (by assumption) ?_; rotate_left 2; (· (simp only [List.getElem?_toArray, List.getElem?_cons_succ, List.getElem?_cons_zero]; first | done | rfl)); (· exact (fun _ _ _ h => h)); (· rfl); (· (intro w hSw; (try dsimp only at hSw); go_simp; (try with_reducible rfl))))
            (try simp only [Act.put, List.setIfInBounds_toArray, List.set_cons_zero, List.set_cons_succ])
            (refine wpAnyH_take (i := 5) (oi := ?_) (v := ?_) ?_ (by kernel_rfl) (by kernel_rfl) (by kernel_rfl) ?_ (Or.inl ⟨?_, ?_⟩) (by assumption) ?_; rotate_left 2; (· (simp only [List.getElem?_toArray, List.getElem?_cons_succ, List.getElem?_cons_zero]; first | done | rfl)); (· exact (fun _ _ _ h => h)); (· rfl); (· (intro w hSw; (try dsimp only at hSw); go_simp; (try with_reducible rfl))))
            (try simp only [Act.put, List.setIfInBounds_toArray, List.set_cons_zero, List.set_cons_succ])
            (refine wpAnyH_take (i := 6) (oi := ?_) (v := ?_) ?_ (by kernel_rfl) (by kernel_rfl) (by kernel_rfl) ?_ (Or.inl ⟨?_, ?_⟩) (by assumption) ?_; rotate_left 2; (· (simp only [List.getElem?_toArray, List.getElem?_cons_succ, List.getElem?_cons_zero]; first | done | rfl)); (· exact (fun _ _ _ h => h)); (· rfl); (· (intro w hSw; (try dsimp only at hSw); go_simp; (try with_reducible rfl))))
            (try simp only [Act.put, List.setIfInBounds_toArray, List.set_cons_zero, List.set_cons_succ])
            (refine wpAnyH_take (i := 7) (oi := ?_) (v := ?_) ?_ (by kernel_rfl) (by kernel_rfl) (by kernel_rfl) ?_ (Or.inl ⟨?_, ?_⟩) (by assumption) ?_; rotate_left 2; (· (simp only [List.getElem?_toArray, List.getElem?_cons_succ, List.getElem?_cons_zero]; first | done | rfl)); (· exact (fun _ _ _ h => h)); (· rfl); (· (intro w hSw; (try dsimp only at hSw); go_simp; (try with_reducible rfl))))
            (try simp only [Act.put, List.setIfInBounds_toArray, List.set_cons_zero, List.set_cons_succ])
            (refine wpAnyH_take (i := 8) (oi := ?_) (v := ?_) ?_ (by kernel_rfl) (by kernel_rfl) (by kernel_rfl) ?_ (Or.inl ⟨?_, ?_⟩) (by assumption) ?_; rotate_left 2; (· (simp only [List.getElem?_toArray, List.getElem?_cons_succ, List.getElem?_cons_zero]; first | done | rfl)); (· exact (fun _ _ _ h => h)); (· rfl); (· (intro w hSw; (try dsimp only at hSw); go_simp; (try with_reducible rfl))))
            (try simp only [Act.put, List.setIfInBounds_toArray, List.set_cons_zero, List.set_cons_succ])
            (refine wpAnyH_take (i := 9) (oi := ?_) (v := ?_) ?_ (by kernel_rfl) (by kernel_rfl) (by kernel_rfl) ?_ (Or.inl ⟨?_, ?_⟩) (by assumption) ?_; rotate_left 2; (· (simp only [List.getElem?_toArray, List.getElem?_cons_succ, List.getElem?_cons_zero]; first | done | rfl)); (· exact (fun _ _ _ h => h)); (· rfl); (· (intro w hSw; (try dsimp only at hSw); go_simp; (try with_reducible rfl))))
            (try simp only [Act.put, List.setIfInBounds_toArray, List.set_cons_zero, List.set_cons_succ])
            (refine wpAnyH_take (i := 10) (oi := ?_) (v := ?_) ?_ (by kernel_rfl) (by kernel_rfl) (by kernel_rfl) ?_ (Or.inl ⟨?_, ?_⟩) (by assumption) ?_; rotate_left 2; (· (simp only [List.getElem?_toArray, List.getElem?_cons_succ, List.getElem?_cons_zero]; first | done | rfl)); (· exact (fun _ _ _ h => h)); (· rfl); (· (intro w hSw; (try dsimp only at hSw); go_simp; (try with_reducible rfl))))
            (try simp only [Act.put, List.setIfInBounds_toArray, List.set_cons_zero, List.set_cons_succ])
            (refine wpAnyH_take (i := 11) (oi := ?_) (v := ?_) ?_ (by kernel_rfl) (by kernel_rfl) (by kernel_rfl) ?_ (Or.inl ⟨?_, ?_⟩) (by assumption) ?_; rotate_left 2; (· (simp only [List.getElem?_toArray, List.getElem?_cons_succ, List.getElem?_cons_zero]; first | done | rfl)); (· exact (fun _ _ _ h => h)); (· rfl); (· (intro w hSw; (try dsimp only at hSw); go_simp; (try with_reducible rfl))))
            (try simp only [Act.put, List.setIfInBounds_toArray, List.set_cons_zero, List.set_cons_succ])
            (refine wpAnyH_take (i := 12) (oi := ?_) (v := ?_) ?_ (by kernel_rfl) (by kernel_rfl) (by kernel_rfl) ?_ (Or.inl ⟨?_, ?_⟩) (by assumption) ?_; rotate_left 2; (· (simp only [List.getElem?_toArray, List.getElem?_cons_succ, List.getElem?_cons_zero]; first | done | rfl)); (· exact (fun _ _ _ h => h)); (· rfl); (· (intro w hSw; (try dsimp only at hSw); go_simp; (try with_reducible rfl))))
            (try simp only [Act.put, List.setIfInBounds_toArray, List.set_cons_zero, List.set_cons_succ])
            (refine wpAnyH_take (i := 13) (oi := ?_) (v := ?_) ?_ (by kernel_rfl) (by kernel_rfl) (by kernel_rfl) ?_ (Or.inl ⟨?_, ?_⟩) (by assumption) ?_; rotate_left 2; (· (simp only [List.getElem?_toArray, List.getElem?_cons_succ, List.getElem?_cons_zero]; first | done | rfl)); (· exact (fun _ _ _ h => h)); (· rfl); (· (intro w hSw; (try dsimp only at hSw); go_simp; (try with_reducible rfl))))
            (try simp only [Act.put, List.setIfInBounds_toArray, List.set_cons_zero, List.set_cons_succ])
            refine wpAnyH_ready (rs := [14]) (by kernel_rfl) (by simp) ?_
            refine AllReadyH.cons (o := ?_) ?_ (fun K hK => ?_) AllReadyH.nil
            rotate_left 1
            · (simp only [List.getElem?_toArray, List.getElem?_cons_succ, List.getElem?_cons_zero]; first | done | rfl)
            go_simp
            first | (refine hK.out _ _ ?_ (fun hq1 => ?_)) | ((go_at_call 28; refine (HCM.out _ (so_own (by assumption))).mono ?_; rintro e w7 ⟨rfl, hb7⟩); refine hK.out _ _ ?_ (fun hq1 => ?_)) | ((go_at_call 28; refine (HCM.out _ (so_own (by assumption))).mono ?_; rintro e w7 ⟨rfl, hb7⟩); go_wp2_with fail; refine hK.out _ _ ?_ (fun hq1 => ?_)) | fail
            · ((try dsimp only); (first | exact HST.out | assumption | exact so_below (by assumption) (by assumption)))
            clear hK K
            (try simp only [Act.put, List.setIfInBounds_toArray, List.set_cons_zero, List.set_cons_succ])
            clear hq0
            (refine wpAnyH_take (i := 15) (oi := ?_) (v := ?_) ?_ (by kernel_rfl) (by kernel_rfl) (by kernel_rfl) ?_ (Or.inl ⟨?_, ?_⟩) (by assumption) ?_; rotate_left 2; (· (simp only [List.getElem?_toArray, List.getElem?_cons_succ, List.getElem?_cons_zero]; first | done | rfl)); (· exact (fun _ _ _ h => h)); (· rfl); (· (intro w hSw; (try dsimp only at hSw); go_simp; (try with_reducible rfl))))
            (try simp only [Act.put, List.setIfInBounds_toArray, List.set_cons_zero, List.set_cons_succ])
            (refine wpAnyH_take (i := 16) (oi := ?_) (v := ?_) ?_ (by kernel_rfl) (by kernel_rfl) (by kernel_rfl) ?_ (Or.inl ⟨?_, ?_⟩) (by assumption) ?_; rotate_left 2; (· (simp only [List.getElem?_toArray, List.getElem?_cons_succ, List.getElem?_cons_zero]; first | done | rfl)); (· exact (fun _ _ _ h => h)); (· rfl); (· (intro w hSw; (try dsimp only at hSw); go_simp; (try with_reducible rfl))))
            (try simp only [Act.put, List.setIfInBounds_toArray, List.set_cons_zero, List.set_cons_succ])
            refine wpAnyH_done (by kernel_rfl) ?_ _
            go_wp2_with fail
            exact ⟨⟨i + 1, by omega, by omega, by go_num, by
              have e : isort L (i + 1 - 1) = M := by
                show isort L i = M
                rw [← HB.out, HBUB.out, if_neg (by omega)]
              rw [e]; exact HROW2.out.below (so_own (by assumption)) HROW2.out.lt, HBR2.out.trans ((so_own (by assumption)).mono (Nat.le_of_lt HROW2.out.lt))⟩, by simp [intOf]; go_num⟩
    · obtain rfl : i = L.length := by omega
      have q1 : ¬ ((L.length : Nat) : Int) < (L.length : Int) := by omega
      go_wp2_with fail
      go_end0
      exact ⟨rfl, hrow, hbr⟩
end Go.Proofs.YtfkedobofamkiaaGreatDoor.Val
end

section
/- THE WALK OF slices.SortStableFunc at a short row of conditions. -/
namespace Go.Proofs.YtfkedobofamkiaaGreatDoor.Val
open Go.RowKit Flt
set_option maxRecDepth 20000 in
set_option maxHeartbeats 1000000 in
theorem insertion_none (v : Value) (w : World) :
    Calls Tryz.prog 48 #[v, .int .i64 0, .int .i64 0, .func (.func 28) #[] #[]] w fun e w' => e = .returned (.tuple #[]) ∧ Below w.heap.size w w' := by
  go_enter Tryz.func48, Tryz.ntmps48
  go_wp2_with fail
  go_loopw [8] (fun vi wr => vi = .int .i64 1 ∧ Below w.heap.size w wr) (fun _ _ => 0)
  case atStart => exact ⟨rfl, Below.refl _ _⟩
  case round =>
    obtain ⟨rfl, hb⟩ := hrel
    go_wp2_with fail
    go_end0
    exact ⟨rfl, hb⟩
set_option maxRecDepth 20000 in
set_option maxHeartbeats 1000000 in
theorem stable_in (v : Value) (n : Nat) (hn : n ≤ 19) (w : World) (R : World → Prop)
    (hi : ∀ W, Below w.heap.size w W → Calls Tryz.prog 48 #[v, .int .i64 0, .int .i64 (n : Nat), .func (.func 28) #[] #[]] W fun e w' => e = .returned (.tuple #[]) ∧ R w') :
    Calls Tryz.prog 38 #[v, .int .i64 (n : Nat), .func (.func 28) #[] #[]] w fun e w' => e = .returned (.tuple #[]) ∧ R w' := by
  have HI := Lib.hid hi; clear hi
  have q1 : ¬ (20 : Int) ≤ (n : Int) := by omega
  have q2 : ¬ (20 : Int) < (n : Int) := by omega
  go_enter Tryz.func38, Tryz.ntmps38
  go_wp2_with fail
  go_loopw [7, 8] (fun va vb wr => va = .int .i64 0 ∧ vb = .int .i64 20 ∧ Below w.heap.size w wr) (fun _ _ _ => 0)
  case atStart => exact ⟨rfl, rfl, Below.refl _ _⟩
  case round =>
    obtain ⟨rfl, rfl, hb⟩ := hrel
    go_wp2_with (first | (go_at_call 48; refine (HI.out _ hb).mono ?_; rintro e w3 ⟨rfl, hr⟩) | fail)
    have HRR := Lib.hid hr; clear hr hb
    go_loopw [6] (fun vs wr => vs = .int .i64 20 ∧ wr = w3) (fun _ _ => 0)
    case atStart => exact ⟨rfl, rfl⟩
    case round =>
      obtain ⟨rfl, rfl⟩ := hrel
      go_wp2_with fail
      go_end0
      exact ⟨rfl, HRR.out⟩
set_option maxRecDepth 20000 in
set_option maxHeartbeats 1000000 in
theorem sort_in (a0 : Option Addr) (n cap : Nat) (w : World) (R : World → Prop)
    (hi : ∀ W, Below w.heap.size w W → Calls Tryz.prog 38 #[.slice a0 n cap, .int .i64 (n : Nat), .func (.func 28) #[] #[]] W fun e w' => e = .returned (.tuple #[]) ∧ R w') :
    Calls Tryz.prog 27 #[.slice a0 n cap, .func (.func 28) #[] #[]] w fun e w' => e = .returned (.tuple #[]) ∧ R w' := by
  have HI := Lib.hid hi; clear hi
  go_enter Tryz.func27, Tryz.ntmps27
  go_wp2_with (first | (go_at_call 38; refine (HI.out _ (Below.refl _ _)).mono ?_; rintro e w3 ⟨rfl, hr⟩) | fail)
  go_end0
  exact ⟨rfl, hr⟩
/-- a row of conditions is brought in order -/
theorem sort_any (L : List C) (Z : List Value) (g cap : Nat) (ws w : World) (hw : Words ws) (hT : Tab.Tabs ws) (hgs : ws.heap.size ≤ g) (hbs : Below ws.heap.size ws w) (hr : Row w g L Z) (hs : ∀ x ∈ L, CSmall x) (hl : L.length ≤ 19) (h1 : 1 ≤ L.length) :
    Calls Tryz.prog 27 #[.slice (some ⟨g, 0, none⟩) L.length cap, .func (.func 28) #[] #[]] w fun e w' =>
      e = .returned (.tuple #[]) ∧ (Row w' g (isort L (L.length - 1)) Z ∧ Below g w w') :=
  sort_in _ _ _ w (fun w' => Row w' g (isort L (L.length - 1)) Z ∧ Below g w w') (fun W hb => stable_in _ L.length hl W _ (fun W2 hb2 => by
    have hg := hr.lt
    have hb3 : Below w.heap.size w W2 := hb.trans (hb2.mono hb.size)
    have hb4 : Below g w W2 := hb3.mono (Nat.le_of_lt hg)
    refine (insertion_any L Z g cap ws W2 hw hT hgs (hbs.trans (hb3.mono hbs.size)) (hr.below hb3 hg) hs (by omega) h1).mono ?_
    rintro e w' ⟨h1, h2, h3⟩
    exact ⟨h1, h2, hb4.trans h3⟩))
theorem sort_none (a0 : Option Addr) (cap : Nat) (w : World) :
    Calls Tryz.prog 27 #[.slice a0 0 cap, .func (.func 28) #[] #[]] w fun e w' => e = .returned (.tuple #[]) ∧ Below w.heap.size w w' :=
  sort_in a0 0 cap w (fun w' => Below w.heap.size w w') (fun W hb => stable_in _ 0 (by decide) W _ (fun W2 hb2 => (insertion_none _ W2).mono fun e w' ⟨h1, h2⟩ => ⟨h1, (hb.trans (hb2.mono hb.size)).trans (h2.mono (Nat.le_trans hb.size hb2.size))⟩))
end Go.Proofs.YtfkedobofamkiaaGreatDoor.Val
end

section
/- THE WALK OF filter.needless: does another condition imply one? -/
namespace Go.Proofs.YtfkedobofamkiaaGreatDoor.Val
open Go.RowKit Flt
/-- does the k-th make the i-th needless? -/
def hit (L : List C) (i k : Nat) : Bool := !(k == i) && (impliesB L[k]! L[i]! && (decide (k < i) || !impliesB L[i]! L[k]!))
def needN (L : List C) (i : Nat) : Nat → Bool
  | 0 => false
  | k + 1 => needN L i k || hit L i k
def needB (L : List C) (i : Nat) : Bool := needN L i L.length
theorem needN_hit (L : List C) (i k n : Nat) (h : k < n) (hk : hit L i k = true) : needN L i n = true := by
  induction n with
  | zero => omega
  | succ n ih =>
    unfold needN
    by_cases e : k = n
    · subst e; rw [hk]; simp
    · rw [ih (by omega)]; rfl
theorem nd_below {x y : C} {g i : Nat} {wr w1 w2 : World} (hb : Below w1.heap.size w1 w2) (h : w1.cell? ⟨wr.heap.size, 0, none⟩ = some (.string ⟨x.name.toArray⟩) ∧ w1.cell? ⟨wr.heap.size, 1, none⟩ = some (.int .i64 x.op) ∧ w1.cell? ⟨wr.heap.size, 2, none⟩ = some (.int .i64 x.val.kind) ∧ w1.cell? ⟨wr.heap.size, 3, none⟩ = some (.int .i64 x.val.int) ∧ w1.cell? ⟨wr.heap.size, 4, none⟩ = some (.float .f64 x.val.num) ∧ w1.cell? ⟨wr.heap.size, 5, none⟩ = some (.string ⟨x.val.text.toArray⟩) ∧ w1.cell? ⟨wr.heap.size, 6, none⟩ = some (.bool x.val.yes) ∧ w1.cell? ⟨g, i * 7, none⟩ = some (.string ⟨y.name.toArray⟩) ∧ w1.cell? ⟨g, i * 7 + 1, none⟩ = some (.int .i64 y.op) ∧ w1.cell? ⟨g, i * 7 + 2, none⟩ = some (.int .i64 y.val.kind) ∧ w1.cell? ⟨g, i * 7 + 3, none⟩ = some (.int .i64 y.val.int) ∧ w1.cell? ⟨g, i * 7 + 4, none⟩ = some (.float .f64 y.val.num) ∧ w1.cell? ⟨g, i * 7 + 5, none⟩ = some (.string ⟨y.val.text.toArray⟩) ∧ w1.cell? ⟨g, i * 7 + 6, none⟩ = some (.bool y.val.yes) ∧ Below wr.heap.size wr w1 ∧ wr.heap.size < w1.heap.size ∧ g < wr.heap.size) :
    w2.cell? ⟨wr.heap.size, 0, none⟩ = some (.string ⟨x.name.toArray⟩) ∧ w2.cell? ⟨wr.heap.size, 1, none⟩ = some (.int .i64 x.op) ∧ w2.cell? ⟨wr.heap.size, 2, none⟩ = some (.int .i64 x.val.kind) ∧ w2.cell? ⟨wr.heap.size, 3, none⟩ = some (.int .i64 x.val.int) ∧ w2.cell? ⟨wr.heap.size, 4, none⟩ = some (.float .f64 x.val.num) ∧ w2.cell? ⟨wr.heap.size, 5, none⟩ = some (.string ⟨x.val.text.toArray⟩) ∧ w2.cell? ⟨wr.heap.size, 6, none⟩ = some (.bool x.val.yes) ∧ w2.cell? ⟨g, i * 7, none⟩ = some (.string ⟨y.name.toArray⟩) ∧ w2.cell? ⟨g, i * 7 + 1, none⟩ = some (.int .i64 y.op) ∧ w2.cell? ⟨g, i * 7 + 2, none⟩ = some (.int .i64 y.val.kind) ∧ w2.cell? ⟨g, i * 7 + 3, none⟩ = some (.int .i64 y.val.int) ∧ w2.cell? ⟨g, i * 7 + 4, none⟩ = some (.float .f64 y.val.num) ∧ w2.cell? ⟨g, i * 7 + 5, none⟩ = some (.string ⟨y.val.text.toArray⟩) ∧ w2.cell? ⟨g, i * 7 + 6, none⟩ = some (.bool y.val.yes) ∧ Below wr.heap.size wr w2 ∧ wr.heap.size < w2.heap.size ∧ g < wr.heap.size := by
  obtain ⟨h0, h1, h2, h3, h4, h5, h6, h7, h8, h9, h10, h11, h12, h13, hB, hl, hg⟩ := h
  have hsz := hB.size
  have c : ∀ b o, b < w1.heap.size → w2.cell? ⟨b, o, none⟩ = w1.cell? ⟨b, o, none⟩ := fun b o h => hb.cell (p := ⟨b, o, none⟩) h
  exact ⟨(c _ _ (by omega)).trans h0, (c _ _ (by omega)).trans h1, (c _ _ (by omega)).trans h2, (c _ _ (by omega)).trans h3, (c _ _ (by omega)).trans h4, (c _ _ (by omega)).trans h5, (c _ _ (by omega)).trans h6, (c _ _ (by omega)).trans h7, (c _ _ (by omega)).trans h8, (c _ _ (by omega)).trans h9, (c _ _ (by omega)).trans h10, (c _ _ (by omega)).trans h11, (c _ _ (by omega)).trans h12, (c _ _ (by omega)).trans h13, btrans hB hb, Nat.lt_of_lt_of_le hl hb.size, hg⟩
theorem nd_start {L : List C} {Z : List Value} {x : C} {g i : Nat} {wr : World} {T : TypeId} (h : Row wr g L Z) (hi : i < L.length) : (wr.alloc (.cells #[(.string ⟨x.name.toArray⟩), (.int .i64 x.op), (.int .i64 x.val.kind), (.int .i64 x.val.int), (.float .f64 x.val.num), (.string ⟨x.val.text.toArray⟩), (.bool x.val.yes)] T)).drew.cell? ⟨wr.heap.size, 0, none⟩ = some (.string ⟨x.name.toArray⟩) ∧ (wr.alloc (.cells #[(.string ⟨x.name.toArray⟩), (.int .i64 x.op), (.int .i64 x.val.kind), (.int .i64 x.val.int), (.float .f64 x.val.num), (.string ⟨x.val.text.toArray⟩), (.bool x.val.yes)] T)).drew.cell? ⟨wr.heap.size, 1, none⟩ = some (.int .i64 x.op) ∧ (wr.alloc (.cells #[(.string ⟨x.name.toArray⟩), (.int .i64 x.op), (.int .i64 x.val.kind), (.int .i64 x.val.int), (.float .f64 x.val.num), (.string ⟨x.val.text.toArray⟩), (.bool x.val.yes)] T)).drew.cell? ⟨wr.heap.size, 2, none⟩ = some (.int .i64 x.val.kind) ∧ (wr.alloc (.cells #[(.string ⟨x.name.toArray⟩), (.int .i64 x.op), (.int .i64 x.val.kind), (.int .i64 x.val.int), (.float .f64 x.val.num), (.string ⟨x.val.text.toArray⟩), (.bool x.val.yes)] T)).drew.cell? ⟨wr.heap.size, 3, none⟩ = some (.int .i64 x.val.int) ∧ (wr.alloc (.cells #[(.string ⟨x.name.toArray⟩), (.int .i64 x.op), (.int .i64 x.val.kind), (.int .i64 x.val.int), (.float .f64 x.val.num), (.string ⟨x.val.text.toArray⟩), (.bool x.val.yes)] T)).drew.cell? ⟨wr.heap.size, 4, none⟩ = some (.float .f64 x.val.num) ∧ (wr.alloc (.cells #[(.string ⟨x.name.toArray⟩), (.int .i64 x.op), (.int .i64 x.val.kind), (.int .i64 x.val.int), (.float .f64 x.val.num), (.string ⟨x.val.text.toArray⟩), (.bool x.val.yes)] T)).drew.cell? ⟨wr.heap.size, 5, none⟩ = some (.string ⟨x.val.text.toArray⟩) ∧ (wr.alloc (.cells #[(.string ⟨x.name.toArray⟩), (.int .i64 x.op), (.int .i64 x.val.kind), (.int .i64 x.val.int), (.float .f64 x.val.num), (.string ⟨x.val.text.toArray⟩), (.bool x.val.yes)] T)).drew.cell? ⟨wr.heap.size, 6, none⟩ = some (.bool x.val.yes) ∧ (wr.alloc (.cells #[(.string ⟨x.name.toArray⟩), (.int .i64 x.op), (.int .i64 x.val.kind), (.int .i64 x.val.int), (.float .f64 x.val.num), (.string ⟨x.val.text.toArray⟩), (.bool x.val.yes)] T)).drew.cell? ⟨g, i * 7, none⟩ = some (.string ⟨(L[i]'hi).name.toArray⟩) ∧ (wr.alloc (.cells #[(.string ⟨x.name.toArray⟩), (.int .i64 x.op), (.int .i64 x.val.kind), (.int .i64 x.val.int), (.float .f64 x.val.num), (.string ⟨x.val.text.toArray⟩), (.bool x.val.yes)] T)).drew.cell? ⟨g, i * 7 + 1, none⟩ = some (.int .i64 (L[i]'hi).op) ∧ (wr.alloc (.cells #[(.string ⟨x.name.toArray⟩), (.int .i64 x.op), (.int .i64 x.val.kind), (.int .i64 x.val.int), (.float .f64 x.val.num), (.string ⟨x.val.text.toArray⟩), (.bool x.val.yes)] T)).drew.cell? ⟨g, i * 7 + 2, none⟩ = some (.int .i64 (L[i]'hi).val.kind) ∧ (wr.alloc (.cells #[(.string ⟨x.name.toArray⟩), (.int .i64 x.op), (.int .i64 x.val.kind), (.int .i64 x.val.int), (.float .f64 x.val.num), (.string ⟨x.val.text.toArray⟩), (.bool x.val.yes)] T)).drew.cell? ⟨g, i * 7 + 3, none⟩ = some (.int .i64 (L[i]'hi).val.int) ∧ (wr.alloc (.cells #[(.string ⟨x.name.toArray⟩), (.int .i64 x.op), (.int .i64 x.val.kind), (.int .i64 x.val.int), (.float .f64 x.val.num), (.string ⟨x.val.text.toArray⟩), (.bool x.val.yes)] T)).drew.cell? ⟨g, i * 7 + 4, none⟩ = some (.float .f64 (L[i]'hi).val.num) ∧ (wr.alloc (.cells #[(.string ⟨x.name.toArray⟩), (.int .i64 x.op), (.int .i64 x.val.kind), (.int .i64 x.val.int), (.float .f64 x.val.num), (.string ⟨x.val.text.toArray⟩), (.bool x.val.yes)] T)).drew.cell? ⟨g, i * 7 + 5, none⟩ = some (.string ⟨(L[i]'hi).val.text.toArray⟩) ∧ (wr.alloc (.cells #[(.string ⟨x.name.toArray⟩), (.int .i64 x.op), (.int .i64 x.val.kind), (.int .i64 x.val.int), (.float .f64 x.val.num), (.string ⟨x.val.text.toArray⟩), (.bool x.val.yes)] T)).drew.cell? ⟨g, i * 7 + 6, none⟩ = some (.bool (L[i]'hi).val.yes) ∧ Below wr.heap.size wr (wr.alloc (.cells #[(.string ⟨x.name.toArray⟩), (.int .i64 x.op), (.int .i64 x.val.kind), (.int .i64 x.val.int), (.float .f64 x.val.num), (.string ⟨x.val.text.toArray⟩), (.bool x.val.yes)] T)).drew ∧ wr.heap.size < (wr.alloc (.cells #[(.string ⟨x.name.toArray⟩), (.int .i64 x.op), (.int .i64 x.val.kind), (.int .i64 x.val.int), (.float .f64 x.val.num), (.string ⟨x.val.text.toArray⟩), (.bool x.val.yes)] T)).drew.heap.size ∧ g < wr.heap.size := by
  have b := h.cat i hi
  obtain ⟨b0, b1, b2, b3, b4, b5, b6⟩ := b
  have c : ∀ o, (wr.alloc (.cells #[(.string ⟨x.name.toArray⟩), (.int .i64 x.op), (.int .i64 x.val.kind), (.int .i64 x.val.int), (.float .f64 x.val.num), (.string ⟨x.val.text.toArray⟩), (.bool x.val.yes)] T)).drew.cell? ⟨wr.heap.size, o, none⟩ = #[(.string ⟨x.name.toArray⟩), (.int .i64 x.op), (.int .i64 x.val.kind), (.int .i64 x.val.int), (.float .f64 x.val.num), (.string ⟨x.val.text.toArray⟩), (.bool x.val.yes)][o]? := fun o => World.cell?_alloc_at _ _ _ _ rfl
  have d : ∀ o, (wr.alloc (.cells #[(.string ⟨x.name.toArray⟩), (.int .i64 x.op), (.int .i64 x.val.kind), (.int .i64 x.val.int), (.float .f64 x.val.num), (.string ⟨x.val.text.toArray⟩), (.bool x.val.yes)] T)).drew.cell? ⟨g, o, none⟩ = wr.cell? ⟨g, o, none⟩ := fun o => (balloc wr _).cell (p := ⟨g, o, none⟩) h.lt
  exact ⟨c 0, c 1, c 2, c 3, c 4, c 5, c 6, (d _).trans b0, (d _).trans b1, (d _).trans b2, (d _).trans b3, (d _).trans b4, (d _).trans b5, (d _).trans b6, bdrewN (balloc _ _) 1, by show wr.heap.size < (wr.alloc _).heap.size; simp, h.lt⟩
theorem nd_own {x y : C} {g i : Nat} {wr w1 : World} (h : w1.cell? ⟨wr.heap.size, 0, none⟩ = some (.string ⟨x.name.toArray⟩) ∧ w1.cell? ⟨wr.heap.size, 1, none⟩ = some (.int .i64 x.op) ∧ w1.cell? ⟨wr.heap.size, 2, none⟩ = some (.int .i64 x.val.kind) ∧ w1.cell? ⟨wr.heap.size, 3, none⟩ = some (.int .i64 x.val.int) ∧ w1.cell? ⟨wr.heap.size, 4, none⟩ = some (.float .f64 x.val.num) ∧ w1.cell? ⟨wr.heap.size, 5, none⟩ = some (.string ⟨x.val.text.toArray⟩) ∧ w1.cell? ⟨wr.heap.size, 6, none⟩ = some (.bool x.val.yes) ∧ w1.cell? ⟨g, i * 7, none⟩ = some (.string ⟨y.name.toArray⟩) ∧ w1.cell? ⟨g, i * 7 + 1, none⟩ = some (.int .i64 y.op) ∧ w1.cell? ⟨g, i * 7 + 2, none⟩ = some (.int .i64 y.val.kind) ∧ w1.cell? ⟨g, i * 7 + 3, none⟩ = some (.int .i64 y.val.int) ∧ w1.cell? ⟨g, i * 7 + 4, none⟩ = some (.float .f64 y.val.num) ∧ w1.cell? ⟨g, i * 7 + 5, none⟩ = some (.string ⟨y.val.text.toArray⟩) ∧ w1.cell? ⟨g, i * 7 + 6, none⟩ = some (.bool y.val.yes) ∧ Below wr.heap.size wr w1 ∧ wr.heap.size < w1.heap.size ∧ g < wr.heap.size) : Below wr.heap.size wr w1 := h.2.2.2.2.2.2.2.2.2.2.2.2.2.2.1
attribute [local go_sem] run_store_flt
set_option maxRecDepth 20000 in
set_option maxHeartbeats 2000000 in
theorem needless_any (L : List C) (Z : List Value) (g cap i : Nat) (w : World) (hr : Row w g L Z) (hi : i < L.length) (hl : L.length ≤ 1000) (hs : ∀ c ∈ L, 0 ≤ c.op ∧ c.op ≤ 7 ∧ c.val.num < 18446744073709551616) :
    Calls Tryz.prog 31 #[.slice (some ⟨g, 0, none⟩) L.length cap, .int .i64 (i : Nat)] w fun e w' => e = .returned (.bool (needB L i)) ∧ Below w.heap.size w w' := by
  have HR := Lib.hid hr; have HS := Lib.hid hs
  have hg := hr.lt
  clear hr hs
  go_enter Tryz.func31, Tryz.ntmps31
  have i0 : (0 : Int) ≤ (i : Int) := by omega
  have i1 : (i : Int) < (L.length : Int) := by omega
  go_wp2_with fail
  go_loopw [9] (fun vk wr => ∃ k : Nat, k ≤ L.length ∧ vk = .int .i64 k ∧ Hid (needN L i k = false) ∧ Below w.heap.size w wr) (fun vk _ => L.length - (intOf vk).toNat)
  case atStart => exact ⟨0, Nat.zero_le _, rfl, Lib.hid rfl, Below.refl _ _⟩
  case round =>
    obtain ⟨k, hk, rfl, HP, hbr⟩ := hrel
    have HBR := Lib.hid hbr
    by_cases hlt : k < L.length
    · have k0 : (0 : Int) ≤ (k : Int) := by omega
      have k1 : (k : Int) < (L.length : Int) := by omega
      have hrow : Row wr g L Z := HR.out.below hbr hg
      have ha := hrow.cat k hlt
      obtain ⟨v0, v1, v2, v3, v4, v5, v6⟩ := ha
      have hh : hit L i k = (!(k == i) && (impliesB (L[k]'hlt) (L[i]'hi) && (decide (k < i) || !impliesB (L[i]'hi) (L[k]'hlt)))) := by
        unfold hit; rw [getElem!_pos L k hlt, getElem!_pos L i hi]
      have hst : (wr.alloc (.cells #[(.string ⟨(L[k]'hlt).name.toArray⟩), (.int .i64 (L[k]'hlt).op), (.int .i64 (L[k]'hlt).val.kind), (.int .i64 (L[k]'hlt).val.int), (.float .f64 (L[k]'hlt).val.num), (.string ⟨(L[k]'hlt).val.text.toArray⟩), (.bool (L[k]'hlt).val.yes)] 59)).drew.cell? ⟨wr.heap.size, 0, none⟩ = some (.string ⟨(L[k]'hlt).name.toArray⟩) ∧ (wr.alloc (.cells #[(.string ⟨(L[k]'hlt).name.toArray⟩), (.int .i64 (L[k]'hlt).op), (.int .i64 (L[k]'hlt).val.kind), (.int .i64 (L[k]'hlt).val.int), (.float .f64 (L[k]'hlt).val.num), (.string ⟨(L[k]'hlt).val.text.toArray⟩), (.bool (L[k]'hlt).val.yes)] 59)).drew.cell? ⟨wr.heap.size, 1, none⟩ = some (.int .i64 (L[k]'hlt).op) ∧ (wr.alloc (.cells #[(.string ⟨(L[k]'hlt).name.toArray⟩), (.int .i64 (L[k]'hlt).op), (.int .i64 (L[k]'hlt).val.kind), (.int .i64 (L[k]'hlt).val.int), (.float .f64 (L[k]'hlt).val.num), (.string ⟨(L[k]'hlt).val.text.toArray⟩), (.bool (L[k]'hlt).val.yes)] 59)).drew.cell? ⟨wr.heap.size, 2, none⟩ = some (.int .i64 (L[k]'hlt).val.kind) ∧ (wr.alloc (.cells #[(.string ⟨(L[k]'hlt).name.toArray⟩), (.int .i64 (L[k]'hlt).op), (.int .i64 (L[k]'hlt).val.kind), (.int .i64 (L[k]'hlt).val.int), (.float .f64 (L[k]'hlt).val.num), (.string ⟨(L[k]'hlt).val.text.toArray⟩), (.bool (L[k]'hlt).val.yes)] 59)).drew.cell? ⟨wr.heap.size, 3, none⟩ = some (.int .i64 (L[k]'hlt).val.int) ∧ (wr.alloc (.cells #[(.string ⟨(L[k]'hlt).name.toArray⟩), (.int .i64 (L[k]'hlt).op), (.int .i64 (L[k]'hlt).val.kind), (.int .i64 (L[k]'hlt).val.int), (.float .f64 (L[k]'hlt).val.num), (.string ⟨(L[k]'hlt).val.text.toArray⟩), (.bool (L[k]'hlt).val.yes)] 59)).drew.cell? ⟨wr.heap.size, 4, none⟩ = some (.float .f64 (L[k]'hlt).val.num) ∧ (wr.alloc (.cells #[(.string ⟨(L[k]'hlt).name.toArray⟩), (.int .i64 (L[k]'hlt).op), (.int .i64 (L[k]'hlt).val.kind), (.int .i64 (L[k]'hlt).val.int), (.float .f64 (L[k]'hlt).val.num), (.string ⟨(L[k]'hlt).val.text.toArray⟩), (.bool (L[k]'hlt).val.yes)] 59)).drew.cell? ⟨wr.heap.size, 5, none⟩ = some (.string ⟨(L[k]'hlt).val.text.toArray⟩) ∧ (wr.alloc (.cells #[(.string ⟨(L[k]'hlt).name.toArray⟩), (.int .i64 (L[k]'hlt).op), (.int .i64 (L[k]'hlt).val.kind), (.int .i64 (L[k]'hlt).val.int), (.float .f64 (L[k]'hlt).val.num), (.string ⟨(L[k]'hlt).val.text.toArray⟩), (.bool (L[k]'hlt).val.yes)] 59)).drew.cell? ⟨wr.heap.size, 6, none⟩ = some (.bool (L[k]'hlt).val.yes) ∧ (wr.alloc (.cells #[(.string ⟨(L[k]'hlt).name.toArray⟩), (.int .i64 (L[k]'hlt).op), (.int .i64 (L[k]'hlt).val.kind), (.int .i64 (L[k]'hlt).val.int), (.float .f64 (L[k]'hlt).val.num), (.string ⟨(L[k]'hlt).val.text.toArray⟩), (.bool (L[k]'hlt).val.yes)] 59)).drew.cell? ⟨g, i * 7, none⟩ = some (.string ⟨(L[i]'hi).name.toArray⟩) ∧ (wr.alloc (.cells #[(.string ⟨(L[k]'hlt).name.toArray⟩), (.int .i64 (L[k]'hlt).op), (.int .i64 (L[k]'hlt).val.kind), (.int .i64 (L[k]'hlt).val.int), (.float .f64 (L[k]'hlt).val.num), (.string ⟨(L[k]'hlt).val.text.toArray⟩), (.bool (L[k]'hlt).val.yes)] 59)).drew.cell? ⟨g, i * 7 + 1, none⟩ = some (.int .i64 (L[i]'hi).op) ∧ (wr.alloc (.cells #[(.string ⟨(L[k]'hlt).name.toArray⟩), (.int .i64 (L[k]'hlt).op), (.int .i64 (L[k]'hlt).val.kind), (.int .i64 (L[k]'hlt).val.int), (.float .f64 (L[k]'hlt).val.num), (.string ⟨(L[k]'hlt).val.text.toArray⟩), (.bool (L[k]'hlt).val.yes)] 59)).drew.cell? ⟨g, i * 7 + 2, none⟩ = some (.int .i64 (L[i]'hi).val.kind) ∧ (wr.alloc (.cells #[(.string ⟨(L[k]'hlt).name.toArray⟩), (.int .i64 (L[k]'hlt).op), (.int .i64 (L[k]'hlt).val.kind), (.int .i64 (L[k]'hlt).val.int), (.float .f64 (L[k]'hlt).val.num), (.string ⟨(L[k]'hlt).val.text.toArray⟩), (.bool (L[k]'hlt).val.yes)] 59)).drew.cell? ⟨g, i * 7 + 3, none⟩ = some (.int .i64 (L[i]'hi).val.int) ∧ (wr.alloc (.cells #[(.string ⟨(L[k]'hlt).name.toArray⟩), (.int .i64 (L[k]'hlt).op), (.int .i64 (L[k]'hlt).val.kind), (.int .i64 (L[k]'hlt).val.int), (.float .f64 (L[k]'hlt).val.num), (.string ⟨(L[k]'hlt).val.text.toArray⟩), (.bool (L[k]'hlt).val.yes)] 59)).drew.cell? ⟨g, i * 7 + 4, none⟩ = some (.float .f64 (L[i]'hi).val.num) ∧ (wr.alloc (.cells #[(.string ⟨(L[k]'hlt).name.toArray⟩), (.int .i64 (L[k]'hlt).op), (.int .i64 (L[k]'hlt).val.kind), (.int .i64 (L[k]'hlt).val.int), (.float .f64 (L[k]'hlt).val.num), (.string ⟨(L[k]'hlt).val.text.toArray⟩), (.bool (L[k]'hlt).val.yes)] 59)).drew.cell? ⟨g, i * 7 + 5, none⟩ = some (.string ⟨(L[i]'hi).val.text.toArray⟩) ∧ (wr.alloc (.cells #[(.string ⟨(L[k]'hlt).name.toArray⟩), (.int .i64 (L[k]'hlt).op), (.int .i64 (L[k]'hlt).val.kind), (.int .i64 (L[k]'hlt).val.int), (.float .f64 (L[k]'hlt).val.num), (.string ⟨(L[k]'hlt).val.text.toArray⟩), (.bool (L[k]'hlt).val.yes)] 59)).drew.cell? ⟨g, i * 7 + 6, none⟩ = some (.bool (L[i]'hi).val.yes) ∧ Below wr.heap.size wr (wr.alloc (.cells #[(.string ⟨(L[k]'hlt).name.toArray⟩), (.int .i64 (L[k]'hlt).op), (.int .i64 (L[k]'hlt).val.kind), (.int .i64 (L[k]'hlt).val.int), (.float .f64 (L[k]'hlt).val.num), (.string ⟨(L[k]'hlt).val.text.toArray⟩), (.bool (L[k]'hlt).val.yes)] 59)).drew ∧ wr.heap.size < (wr.alloc (.cells #[(.string ⟨(L[k]'hlt).name.toArray⟩), (.int .i64 (L[k]'hlt).op), (.int .i64 (L[k]'hlt).val.kind), (.int .i64 (L[k]'hlt).val.int), (.float .f64 (L[k]'hlt).val.num), (.string ⟨(L[k]'hlt).val.text.toArray⟩), (.bool (L[k]'hlt).val.yes)] 59)).drew.heap.size ∧ g < wr.heap.size := nd_start (x := L[k]'hlt) (T := 59) hrow hi
      obtain ⟨s1, s2, s3⟩ := HS.out _ (List.getElem_mem hlt)
      obtain ⟨t1, t2, t3⟩ := HS.out _ (List.getElem_mem hi)
      have hi1 (W : World) := implies_any (L[k]'hlt).name (L[k]'hlt).op (L[k]'hlt).val.kind (L[k]'hlt).val.int (L[k]'hlt).val.num (L[k]'hlt).val.text (L[k]'hlt).val.yes (L[i]'hi).name (L[i]'hi).op (L[i]'hi).val.kind (L[i]'hi).val.int (L[i]'hi).val.num (L[i]'hi).val.text (L[i]'hi).val.yes W s1 s2 s3 t3
      have hi2 (W : World) := implies_any (L[i]'hi).name (L[i]'hi).op (L[i]'hi).val.kind (L[i]'hi).val.int (L[i]'hi).val.num (L[i]'hi).val.text (L[i]'hi).val.yes (L[k]'hlt).name (L[k]'hlt).op (L[k]'hlt).val.kind (L[k]'hlt).val.int (L[k]'hlt).val.num (L[k]'hlt).val.text (L[k]'hlt).val.yes W t1 t2 t3 s3
      have e1 : impliesB (L[k]'hlt) (L[i]'hi) = impliesB ⟨(L[k]'hlt).name, (L[k]'hlt).op, (L[k]'hlt).val.kind, (L[k]'hlt).val.int, (L[k]'hlt).val.num, (L[k]'hlt).val.text, (L[k]'hlt).val.yes⟩ ⟨(L[i]'hi).name, (L[i]'hi).op, (L[i]'hi).val.kind, (L[i]'hi).val.int, (L[i]'hi).val.num, (L[i]'hi).val.text, (L[i]'hi).val.yes⟩ := rfl
      have e2 : impliesB (L[i]'hi) (L[k]'hlt) = impliesB ⟨(L[i]'hi).name, (L[i]'hi).op, (L[i]'hi).val.kind, (L[i]'hi).val.int, (L[i]'hi).val.num, (L[i]'hi).val.text, (L[i]'hi).val.yes⟩ ⟨(L[k]'hlt).name, (L[k]'hlt).op, (L[k]'hlt).val.kind, (L[k]'hlt).val.int, (L[k]'hlt).val.num, (L[k]'hlt).val.text, (L[k]'hlt).val.yes⟩ := rfl
      rw [← e1] at hi1
      rw [← e2] at hi2
      clear e1 e2 s1 s2 s3 t1 t2 t3 hbr hrow
      generalize impliesB (L[k]'hlt) (L[i]'hi) = b1 at *
      generalize impliesB (L[i]'hi) (L[k]'hlt) = b2 at *
      generalize (L[k]'hlt) = x at *
      generalize (L[i]'hi) = y at *
      have HST := Lib.hid hst; have HI1 := Lib.hid hi1; have HI2 := Lib.hid hi2
      clear hst hi1 hi2
      by_cases hki : k = i
      · have m1 : ((k : Int) != (i : Int)) = false := by rw [hki]; simp
        have m3 : (k == i) = true := by rw [hki]; simp
        have hro : hit L i k = false := by rw [hh]; rw [m3]; rfl
        have HRO := Lib.hid hro
        clear hh hro hki m3
        go_wp2_with fail
        refine wp_region_held_drew (S := (fun w' => w'.cell? ⟨wr.heap.size, 0, none⟩ = some (.string ⟨x.name.toArray⟩) ∧ w'.cell? ⟨wr.heap.size, 1, none⟩ = some (.int .i64 x.op) ∧ w'.cell? ⟨wr.heap.size, 2, none⟩ = some (.int .i64 x.val.kind) ∧ w'.cell? ⟨wr.heap.size, 3, none⟩ = some (.int .i64 x.val.int) ∧ w'.cell? ⟨wr.heap.size, 4, none⟩ = some (.float .f64 x.val.num) ∧ w'.cell? ⟨wr.heap.size, 5, none⟩ = some (.string ⟨x.val.text.toArray⟩) ∧ w'.cell? ⟨wr.heap.size, 6, none⟩ = some (.bool x.val.yes) ∧ w'.cell? ⟨g, i * 7, none⟩ = some (.string ⟨y.name.toArray⟩) ∧ w'.cell? ⟨g, i * 7 + 1, none⟩ = some (.int .i64 y.op) ∧ w'.cell? ⟨g, i * 7 + 2, none⟩ = some (.int .i64 y.val.kind) ∧ w'.cell? ⟨g, i * 7 + 3, none⟩ = some (.int .i64 y.val.int) ∧ w'.cell? ⟨g, i * 7 + 4, none⟩ = some (.float .f64 y.val.num) ∧ w'.cell? ⟨g, i * 7 + 5, none⟩ = some (.string ⟨y.val.text.toArray⟩) ∧ w'.cell? ⟨g, i * 7 + 6, none⟩ = some (.bool y.val.yes) ∧ Below wr.heap.size wr w' ∧ wr.heap.size < w'.heap.size ∧ g < wr.heap.size)) (by kernel_rfl) ?_ (fun hq0 => ?_)
        · ((try dsimp only); (first | exact HST.out | assumption | exact nd_below (by assumption) (by assumption)))
        (refine wpAnyH_take (i := 0) (oi := ?_) (v := ?_) ?_ (by kernel_rfl) (by kernel_rfl) (by kernel_rfl) ?_ (Or.inl ⟨?_, ?_⟩) (by assumption) ?_; rotate_left 2; (· (simp only [List.getElem?_toArray, List.getElem?_cons_zero]; first | done | rfl)); (· exact (fun _ _ _ h => h)); (· rfl); (· (intro w hSw; (try dsimp only at hSw); go_simp; (try with_reducible rfl))))
        (try simp only [Act.put, List.setIfInBounds_toArray, List.set_cons_zero, List.set_cons_succ])
        (refine wpAnyH_take (i := 1) (oi := ?_) (v := ?_) ?_ (by kernel_rfl) (by kernel_rfl) (by kernel_rfl) ?_ (Or.inl ⟨?_, ?_⟩) (by assumption) ?_; rotate_left 2; (· (simp only [List.getElem?_toArray, List.getElem?_cons_succ, List.getElem?_cons_zero]; first | done | rfl)); (· exact (fun _ _ _ h => h)); (· rfl); (· (intro w hSw; (try dsimp only at hSw); go_simp; (try with_reducible rfl))))
        (try simp only [Act.put, List.setIfInBounds_toArray, List.set_cons_zero, List.set_cons_succ])
        (refine wpAnyH_take (i := 2) (oi := ?_) (v := ?_) ?_ (by kernel_rfl) (by kernel_rfl) (by kernel_rfl) ?_ (Or.inl ⟨?_, ?_⟩) (by assumption) ?_; rotate_left 2; (· (simp only [List.getElem?_toArray, List.getElem?_cons_succ, List.getElem?_cons_zero]; first | done | rfl)); (· exact (fun _ _ _ h => h)); (· rfl); (· (intro w hSw; (try dsimp only at hSw); go_simp; (try with_reducible rfl))))
        (try simp only [Act.put, List.setIfInBounds_toArray, List.set_cons_zero, List.set_cons_succ])
        (refine wpAnyH_take (i := 3) (oi := ?_) (v := ?_) ?_ (by kernel_rfl) (by kernel_rfl) (by kernel_rfl) ?_ (Or.inl ⟨?_, ?_⟩) (by assumption) ?_; rotate_left 2; (· (simp only [List.getElem?_toArray, List.getElem?_cons_succ, List.getElem?_cons_zero]; first | done | rfl)); (· exact (fun _ _ _ h => h)); (· rfl); (· (intro w hSw; (try dsimp only at hSw); go_simp; (try with_reducible rfl))))
        (try simp only [Act.put, List.setIfInBounds_toArray, List.set_cons_zero, List.set_cons_succ])
        (refine wpAnyH_take (i := 4) (oi := ?_) (v := ?_) ?_ (by kernel_rfl) (by kernel_rfl) (by kernel_rfl) ?_ (Or.inr ⟨?_, ?_⟩) (by assumption) ?_; rotate_left 2; (· (simp only [List.getElem?_toArray, List.getElem?_cons_succ, List.getElem?_cons_zero]; first | done | rfl)); (· exact (fun _ _ _ h => h)); (· rfl); (· rfl))
        (try simp only [Act.put, List.setIfInBounds_toArray, List.set_cons_zero, List.set_cons_succ])
        (refine wpAnyH_take (i := 5) (oi := ?_) (v := ?_) ?_ (by kernel_rfl) (by kernel_rfl) (by kernel_rfl) ?_ (Or.inr ⟨?_, ?_⟩) (by assumption) ?_; rotate_left 2; (· (simp only [List.getElem?_toArray, List.getElem?_cons_succ, List.getElem?_cons_zero]; first | done | rfl)); (· exact (fun _ _ _ h => h)); (· rfl); (· rfl))
        (try simp only [Act.put, List.setIfInBounds_toArray, List.set_cons_zero, List.set_cons_succ])
        (refine wpAnyH_take (i := 6) (oi := ?_) (v := ?_) ?_ (by kernel_rfl) (by kernel_rfl) (by kernel_rfl) ?_ (Or.inr ⟨?_, ?_⟩) (by assumption) ?_; rotate_left 2; (· (simp only [List.getElem?_toArray, List.getElem?_cons_succ, List.getElem?_cons_zero]; first | done | rfl)); (· exact (fun _ _ _ h => h)); (· rfl); (· rfl))
        (try simp only [Act.put, List.setIfInBounds_toArray, List.set_cons_zero, List.set_cons_succ])
        (refine wpAnyH_take (i := 7) (oi := ?_) (v := ?_) ?_ (by kernel_rfl) (by kernel_rfl) (by kernel_rfl) ?_ (Or.inr ⟨?_, ?_⟩) (by assumption) ?_; rotate_left 2; (· (simp only [List.getElem?_toArray, List.getElem?_cons_succ, List.getElem?_cons_zero]; first | done | rfl)); (· exact (fun _ _ _ h => h)); (· rfl); (· rfl))
        (try simp only [Act.put, List.setIfInBounds_toArray, List.set_cons_zero, List.set_cons_succ])
        (refine wpAnyH_take (i := 8) (oi := ?_) (v := ?_) ?_ (by kernel_rfl) (by kernel_rfl) (by kernel_rfl) ?_ (Or.inr ⟨?_, ?_⟩) (by assumption) ?_; rotate_left 2; (· (simp only [List.getElem?_toArray, List.getElem?_cons_succ, List.getElem?_cons_zero]; first | done | rfl)); (· exact (fun _ _ _ h => h)); (· rfl); (· rfl))
        (try simp only [Act.put, List.setIfInBounds_toArray, List.set_cons_zero, List.set_cons_succ])
        (refine wpAnyH_take (i := 9) (oi := ?_) (v := ?_) ?_ (by kernel_rfl) (by kernel_rfl) (by kernel_rfl) ?_ (Or.inr ⟨?_, ?_⟩) (by assumption) ?_; rotate_left 2; (· (simp only [List.getElem?_toArray, List.getElem?_cons_succ, List.getElem?_cons_zero]; first | done | rfl)); (· exact (fun _ _ _ h => h)); (· rfl); (· rfl))
        (try simp only [Act.put, List.setIfInBounds_toArray, List.set_cons_zero, List.set_cons_succ])
        (refine wpAnyH_take (i := 10) (oi := ?_) (v := ?_) ?_ (by kernel_rfl) (by kernel_rfl) (by kernel_rfl) ?_ (Or.inl ⟨?_, ?_⟩) (by assumption) ?_; rotate_left 2; (· (simp only [List.getElem?_toArray, List.getElem?_cons_succ, List.getElem?_cons_zero]; first | done | rfl)); (· exact (fun _ _ _ h => h)); (· rfl); (· (intro w hSw; (try dsimp only at hSw); go_simp; (try with_reducible rfl))))
        (try simp only [Act.put, List.setIfInBounds_toArray, List.set_cons_zero, List.set_cons_succ])
        (refine wpAnyH_take (i := 11) (oi := ?_) (v := ?_) ?_ (by kernel_rfl) (by kernel_rfl) (by kernel_rfl) ?_ (Or.inl ⟨?_, ?_⟩) (by assumption) ?_; rotate_left 2; (· (simp only [List.getElem?_toArray, List.getElem?_cons_succ, List.getElem?_cons_zero]; first | done | rfl)); (· exact (fun _ _ _ h => h)); (· rfl); (· (intro w hSw; (try dsimp only at hSw); go_simp; (try with_reducible rfl))))
        (try simp only [Act.put, List.setIfInBounds_toArray, List.set_cons_zero, List.set_cons_succ])
        (refine wpAnyH_take (i := 12) (oi := ?_) (v := ?_) ?_ (by kernel_rfl) (by kernel_rfl) (by kernel_rfl) ?_ (Or.inr ⟨?_, ?_⟩) (by assumption) ?_; rotate_left 2; (· (simp only [List.getElem?_toArray, List.getElem?_cons_succ, List.getElem?_cons_zero]; first | done | rfl)); (· exact (fun _ _ _ h => h)); (· rfl); (· rfl))
        (try simp only [Act.put, List.setIfInBounds_toArray, List.set_cons_zero, List.set_cons_succ])
        (refine wpAnyH_take (i := 13) (oi := ?_) (v := ?_) ?_ (by kernel_rfl) (by kernel_rfl) (by kernel_rfl) ?_ (Or.inr ⟨?_, ?_⟩) (by assumption) ?_; rotate_left 2; (· (simp only [List.getElem?_toArray, List.getElem?_cons_succ, List.getElem?_cons_zero]; first | done | rfl)); (· exact (fun _ _ _ h => h)); (· rfl); (· rfl))
        (try simp only [Act.put, List.setIfInBounds_toArray, List.set_cons_zero, List.set_cons_succ])
        (refine wpAnyH_take (i := 14) (oi := ?_) (v := ?_) ?_ (by kernel_rfl) (by kernel_rfl) (by kernel_rfl) ?_ (Or.inr ⟨?_, ?_⟩) (by assumption) ?_; rotate_left 2; (· (simp only [List.getElem?_toArray, List.getElem?_cons_succ, List.getElem?_cons_zero]; first | done | rfl)); (· exact (fun _ _ _ h => h)); (· rfl); (· rfl))
        (try simp only [Act.put, List.setIfInBounds_toArray, List.set_cons_zero, List.set_cons_succ])
        (refine wpAnyH_take (i := 15) (oi := ?_) (v := ?_) ?_ (by kernel_rfl) (by kernel_rfl) (by kernel_rfl) ?_ (Or.inr ⟨?_, ?_⟩) (by assumption) ?_; rotate_left 2; (· (simp only [List.getElem?_toArray, List.getElem?_cons_succ, List.getElem?_cons_zero]; first | done | rfl)); (· exact (fun _ _ _ h => h)); (· rfl); (· rfl))
        (try simp only [Act.put, List.setIfInBounds_toArray, List.set_cons_zero, List.set_cons_succ])
        (refine wpAnyH_take (i := 16) (oi := ?_) (v := ?_) ?_ (by kernel_rfl) (by kernel_rfl) (by kernel_rfl) ?_ (Or.inr ⟨?_, ?_⟩) (by assumption) ?_; rotate_left 2; (· (simp only [List.getElem?_toArray, List.getElem?_cons_succ, List.getElem?_cons_zero]; first | done | rfl)); (· exact (fun _ _ _ h => h)); (· rfl); (· rfl))
        (try simp only [Act.put, List.setIfInBounds_toArray, List.set_cons_zero, List.set_cons_succ])
        (refine wpAnyH_take (i := 17) (oi := ?_) (v := ?_) ?_ (by kernel_rfl) (by kernel_rfl) (by kernel_rfl) ?_ (Or.inr ⟨?_, ?_⟩) (by assumption) ?_; rotate_left 2; (· (simp only [List.getElem?_toArray, List.getElem?_cons_succ, List.getElem?_cons_zero]; first | done | rfl)); (· exact (fun _ _ _ h => h)); (· rfl); (· rfl))
        (try simp only [Act.put, List.setIfInBounds_toArray, List.set_cons_zero, List.set_cons_succ])
        (refine wpAnyH_take (i := 18) (oi := ?_) (v := ?_) ?_ (by kernel_rfl) (by kernel_rfl) (by kernel_rfl) ?_ (Or.inr ⟨?_, ?_⟩) (by assumption) ?_; rotate_left 2; (· (simp only [List.getElem?_toArray, List.getElem?_cons_succ, List.getElem?_cons_zero]; first | done | rfl)); (· exact (fun _ _ _ h => h)); (· rfl); (· rfl))
        (try simp only [Act.put, List.setIfInBounds_toArray, List.set_cons_zero, List.set_cons_succ])
        (refine wpAnyH_take (i := 19) (oi := ?_) (v := ?_) ?_ (by kernel_rfl) (by kernel_rfl) (by kernel_rfl) ?_ (Or.inr ⟨?_, ?_⟩) (by assumption) ?_; rotate_left 2; (· (simp only [List.getElem?_toArray, List.getElem?_cons_succ, List.getElem?_cons_zero]; first | done | rfl)); (· exact (fun _ _ _ h => h)); (· rfl); (· rfl))
        (try simp only [Act.put, List.setIfInBounds_toArray, List.set_cons_zero, List.set_cons_succ])
        (refine wpAnyH_take (i := 20) (oi := ?_) (v := ?_) ?_ (by kernel_rfl) (by kernel_rfl) (by kernel_rfl) ?_ (Or.inr ⟨?_, ?_⟩) (by assumption) ?_; rotate_left 2; (· (simp only [List.getElem?_toArray, List.getElem?_cons_succ, List.getElem?_cons_zero]; first | done | rfl)); (· exact (fun _ _ _ h => h)); (· rfl); (· rfl))
        (try simp only [Act.put, List.setIfInBounds_toArray, List.set_cons_zero, List.set_cons_succ])
        (refine wpAnyH_take (i := 21) (oi := ?_) (v := ?_) ?_ (by kernel_rfl) (by kernel_rfl) (by kernel_rfl) ?_ (Or.inr ⟨?_, ?_⟩) (by assumption) ?_; rotate_left 2; (· (simp only [List.getElem?_toArray, List.getElem?_cons_succ, List.getElem?_cons_zero]; first | done | rfl)); (· exact (fun _ _ _ h => h)); (· rfl); (· rfl))
        (try simp only [Act.put, List.setIfInBounds_toArray, List.set_cons_zero, List.set_cons_succ])
        (refine wpAnyH_take (i := 22) (oi := ?_) (v := ?_) ?_ (by kernel_rfl) (by kernel_rfl) (by kernel_rfl) ?_ (Or.inr ⟨?_, ?_⟩) (by assumption) ?_; rotate_left 2; (· (simp only [List.getElem?_toArray, List.getElem?_cons_succ, List.getElem?_cons_zero]; first | done | rfl)); (· exact (fun _ _ _ h => h)); (· rfl); (· rfl))
        (try simp only [Act.put, List.setIfInBounds_toArray, List.set_cons_zero, List.set_cons_succ])
        (refine wpAnyH_take (i := 23) (oi := ?_) (v := ?_) ?_ (by kernel_rfl) (by kernel_rfl) (by kernel_rfl) ?_ (Or.inr ⟨?_, ?_⟩) (by assumption) ?_; rotate_left 2; (· (simp only [List.getElem?_toArray, List.getElem?_cons_succ, List.getElem?_cons_zero]; first | done | rfl)); (· exact (fun _ _ _ h => h)); (· rfl); (· rfl))
        (try simp only [Act.put, List.setIfInBounds_toArray, List.set_cons_zero, List.set_cons_succ])
        (refine wpAnyH_take (i := 24) (oi := ?_) (v := ?_) ?_ (by kernel_rfl) (by kernel_rfl) (by kernel_rfl) ?_ (Or.inl ⟨?_, ?_⟩) (by assumption) ?_; rotate_left 2; (· (simp only [List.getElem?_toArray, List.getElem?_cons_succ, List.getElem?_cons_zero]; first | done | rfl)); (· exact (fun _ _ _ h => h)); (· rfl); (· (intro w hSw; (try dsimp only at hSw); go_simp; (try with_reducible rfl))))
        (try simp only [Act.put, List.setIfInBounds_toArray, List.set_cons_zero, List.set_cons_succ])
        refine wpAnyH_done (by kernel_rfl) ?_ _
        go_wp2_with fail
        exact ⟨⟨k + 1, by omega, by go_num, Lib.hid (by rw [needN, HP.out, HRO.out]; rfl), btrans HBR.out (nd_own (by assumption))⟩, by simp [intOf]; go_num⟩
      have m1 : ((k : Int) != (i : Int)) = true := by rw [bne_iff_ne]; omega
      have m2 : ¬ (k : Int) = (i : Int) := by omega
      have m3 : (k == i) = false := by rw [beq_eq_false_iff_ne]; exact hki
      have m4 : (k != i) = true := by rw [bne_iff_ne]; exact hki
      cases b1
      · skip
        have hro : hit L i k = false := by rw [hh]; rw [m3]; rfl
        have HRO := Lib.hid hro
        clear hh hro
        go_wp2_with fail
        refine wp_region_held_drew (S := (fun w' => w'.cell? ⟨wr.heap.size, 0, none⟩ = some (.string ⟨x.name.toArray⟩) ∧ w'.cell? ⟨wr.heap.size, 1, none⟩ = some (.int .i64 x.op) ∧ w'.cell? ⟨wr.heap.size, 2, none⟩ = some (.int .i64 x.val.kind) ∧ w'.cell? ⟨wr.heap.size, 3, none⟩ = some (.int .i64 x.val.int) ∧ w'.cell? ⟨wr.heap.size, 4, none⟩ = some (.float .f64 x.val.num) ∧ w'.cell? ⟨wr.heap.size, 5, none⟩ = some (.string ⟨x.val.text.toArray⟩) ∧ w'.cell? ⟨wr.heap.size, 6, none⟩ = some (.bool x.val.yes) ∧ w'.cell? ⟨g, i * 7, none⟩ = some (.string ⟨y.name.toArray⟩) ∧ w'.cell? ⟨g, i * 7 + 1, none⟩ = some (.int .i64 y.op) ∧ w'.cell? ⟨g, i * 7 + 2, none⟩ = some (.int .i64 y.val.kind) ∧ w'.cell? ⟨g, i * 7 + 3, none⟩ = some (.int .i64 y.val.int) ∧ w'.cell? ⟨g, i * 7 + 4, none⟩ = some (.float .f64 y.val.num) ∧ w'.cell? ⟨g, i * 7 + 5, none⟩ = some (.string ⟨y.val.text.toArray⟩) ∧ w'.cell? ⟨g, i * 7 + 6, none⟩ = some (.bool y.val.yes) ∧ Below wr.heap.size wr w' ∧ wr.heap.size < w'.heap.size ∧ g < wr.heap.size)) (by kernel_rfl) ?_ (fun hq0 => ?_)
        · ((try dsimp only); (first | exact HST.out | assumption | exact nd_below (by assumption) (by assumption)))
        (refine wpAnyH_take (i := 0) (oi := ?_) (v := ?_) ?_ (by kernel_rfl) (by kernel_rfl) (by kernel_rfl) ?_ (Or.inl ⟨?_, ?_⟩) (by assumption) ?_; rotate_left 2; (· (simp only [List.getElem?_toArray, List.getElem?_cons_zero]; first | done | rfl)); (· exact (fun _ _ _ h => h)); (· rfl); (· (intro w hSw; (try dsimp only at hSw); go_simp; (try with_reducible rfl))))
        (try simp only [Act.put, List.setIfInBounds_toArray, List.set_cons_zero, List.set_cons_succ])
        (refine wpAnyH_take (i := 1) (oi := ?_) (v := ?_) ?_ (by kernel_rfl) (by kernel_rfl) (by kernel_rfl) ?_ (Or.inl ⟨?_, ?_⟩) (by assumption) ?_; rotate_left 2; (· (simp only [List.getElem?_toArray, List.getElem?_cons_succ, List.getElem?_cons_zero]; first | done | rfl)); (· exact (fun _ _ _ h => h)); (· rfl); (· (intro w hSw; (try dsimp only at hSw); go_simp; (try with_reducible rfl))))
        (try simp only [Act.put, List.setIfInBounds_toArray, List.set_cons_zero, List.set_cons_succ])
        (refine wpAnyH_take (i := 2) (oi := ?_) (v := ?_) ?_ (by kernel_rfl) (by kernel_rfl) (by kernel_rfl) ?_ (Or.inl ⟨?_, ?_⟩) (by assumption) ?_; rotate_left 2; (· (simp only [List.getElem?_toArray, List.getElem?_cons_succ, List.getElem?_cons_zero]; first | done | rfl)); (· exact (fun _ _ _ h => h)); (· rfl); (· (intro w hSw; (try dsimp only at hSw); go_simp; (try with_reducible rfl))))
        (try simp only [Act.put, List.setIfInBounds_toArray, List.set_cons_zero, List.set_cons_succ])
        (refine wpAnyH_take (i := 3) (oi := ?_) (v := ?_) ?_ (by kernel_rfl) (by kernel_rfl) (by kernel_rfl) ?_ (Or.inl ⟨?_, ?_⟩) (by assumption) ?_; rotate_left 2; (· (simp only [List.getElem?_toArray, List.getElem?_cons_succ, List.getElem?_cons_zero]; first | done | rfl)); (· exact (fun _ _ _ h => h)); (· rfl); (· (intro w hSw; (try dsimp only at hSw); go_simp; (try with_reducible rfl))))
        (try simp only [Act.put, List.setIfInBounds_toArray, List.set_cons_zero, List.set_cons_succ])
        (refine wpAnyH_take (i := 4) (oi := ?_) (v := ?_) ?_ (by kernel_rfl) (by kernel_rfl) (by kernel_rfl) ?_ (Or.inl ⟨?_, ?_⟩) (by assumption) ?_; rotate_left 2; (· (simp only [List.getElem?_toArray, List.getElem?_cons_succ, List.getElem?_cons_zero]; first | done | rfl)); (· exact (fun _ _ _ h => h)); (· rfl); (· (intro w hSw; (try dsimp only at hSw); go_simp; (try with_reducible rfl))))
        (try simp only [Act.put, List.setIfInBounds_toArray, List.set_cons_zero, List.set_cons_succ])
        (refine wpAnyH_take (i := 5) (oi := ?_) (v := ?_) ?_ (by kernel_rfl) (by kernel_rfl) (by kernel_rfl) ?_ (Or.inl ⟨?_, ?_⟩) (by assumption) ?_; rotate_left 2; (· (simp only [List.getElem?_toArray, List.getElem?_cons_succ, List.getElem?_cons_zero]; first | done | rfl)); (· exact (fun _ _ _ h => h)); (· rfl); (· (intro w hSw; (try dsimp only at hSw); go_simp; (try with_reducible rfl))))
        (try simp only [Act.put, List.setIfInBounds_toArray, List.set_cons_zero, List.set_cons_succ])
        (refine wpAnyH_take (i := 6) (oi := ?_) (v := ?_) ?_ (by kernel_rfl) (by kernel_rfl) (by kernel_rfl) ?_ (Or.inl ⟨?_, ?_⟩) (by assumption) ?_; rotate_left 2; (· (simp only [List.getElem?_toArray, List.getElem?_cons_succ, List.getElem?_cons_zero]; first | done | rfl)); (· exact (fun _ _ _ h => h)); (· rfl); (· (intro w hSw; (try dsimp only at hSw); go_simp; (try with_reducible rfl))))
        (try simp only [Act.put, List.setIfInBounds_toArray, List.set_cons_zero, List.set_cons_succ])
        (refine wpAnyH_take (i := 7) (oi := ?_) (v := ?_) ?_ (by kernel_rfl) (by kernel_rfl) (by kernel_rfl) ?_ (Or.inl ⟨?_, ?_⟩) (by assumption) ?_; rotate_left 2; (· (simp only [List.getElem?_toArray, List.getElem?_cons_succ, List.getElem?_cons_zero]; first | done | rfl)); (· exact (fun _ _ _ h => h)); (· rfl); (· (intro w hSw; (try dsimp only at hSw); go_simp; (try with_reducible rfl))))
        (try simp only [Act.put, List.setIfInBounds_toArray, List.set_cons_zero, List.set_cons_succ])
        (refine wpAnyH_take (i := 8) (oi := ?_) (v := ?_) ?_ (by kernel_rfl) (by kernel_rfl) (by kernel_rfl) ?_ (Or.inl ⟨?_, ?_⟩) (by assumption) ?_; rotate_left 2; (· (simp only [List.getElem?_toArray, List.getElem?_cons_succ, List.getElem?_cons_zero]; first | done | rfl)); (· exact (fun _ _ _ h => h)); (· rfl); (· (intro w hSw; (try dsimp only at hSw); go_simp; (try with_reducible rfl))))
        (try simp only [Act.put, List.setIfInBounds_toArray, List.set_cons_zero, List.set_cons_succ])
        refine wpAnyH_ready (rs := [9]) (by kernel_rfl) (by simp) ?_
        refine AllReadyH.cons (o := ?_) ?_ (fun K hK => ?_) AllReadyH.nil
        rotate_left 1
        · (simp only [List.getElem?_toArray, List.getElem?_cons_succ, List.getElem?_cons_zero]; first | done | rfl)
        go_simp
        first | (refine hK.out _ _ ?_ (fun hq1 => ?_)) | ((go_at_call 42; (first | (with_reducible refine (HI1.out _).mono ?_) | (with_reducible refine (HI2.out _).mono ?_)); rintro e w7 ⟨rfl, hb7⟩); refine hK.out _ _ ?_ (fun hq1 => ?_)) | ((go_at_call 42; (first | (with_reducible refine (HI1.out _).mono ?_) | (with_reducible refine (HI2.out _).mono ?_)); rintro e w7 ⟨rfl, hb7⟩); go_wp2_with fail; refine hK.out _ _ ?_ (fun hq1 => ?_)) | fail
        · ((try dsimp only); (first | exact HST.out | assumption | exact nd_below (by assumption) (by assumption)))
        clear hK K
        (try simp only [Act.put, List.setIfInBounds_toArray, List.set_cons_zero, List.set_cons_succ])
        clear hq0
        (refine wpAnyH_take (i := 10) (oi := ?_) (v := ?_) ?_ (by kernel_rfl) (by kernel_rfl) (by kernel_rfl) ?_ (Or.inl ⟨?_, ?_⟩) (by assumption) ?_; rotate_left 2; (· (simp only [List.getElem?_toArray, List.getElem?_cons_succ, List.getElem?_cons_zero]; first | done | rfl)); (· exact (fun _ _ _ h => h)); (· rfl); (· (intro w hSw; (try dsimp only at hSw); go_simp; (try with_reducible rfl))))
        (try simp only [Act.put, List.setIfInBounds_toArray, List.set_cons_zero, List.set_cons_succ])
        (refine wpAnyH_take (i := 11) (oi := ?_) (v := ?_) ?_ (by kernel_rfl) (by kernel_rfl) (by kernel_rfl) ?_ (Or.inl ⟨?_, ?_⟩) (by assumption) ?_; rotate_left 2; (· (simp only [List.getElem?_toArray, List.getElem?_cons_succ, List.getElem?_cons_zero]; first | done | rfl)); (· exact (fun _ _ _ h => h)); (· rfl); (· (intro w hSw; (try dsimp only at hSw); go_simp; (try with_reducible rfl))))
        (try simp only [Act.put, List.setIfInBounds_toArray, List.set_cons_zero, List.set_cons_succ])
        (refine wpAnyH_take (i := 12) (oi := ?_) (v := ?_) ?_ (by kernel_rfl) (by kernel_rfl) (by kernel_rfl) ?_ (Or.inr ⟨?_, ?_⟩) (by assumption) ?_; rotate_left 2; (· (simp only [List.getElem?_toArray, List.getElem?_cons_succ, List.getElem?_cons_zero]; first | done | rfl)); (· exact (fun _ _ _ h => h)); (· rfl); (· rfl))
        (try simp only [Act.put, List.setIfInBounds_toArray, List.set_cons_zero, List.set_cons_succ])
        (refine wpAnyH_take (i := 13) (oi := ?_) (v := ?_) ?_ (by kernel_rfl) (by kernel_rfl) (by kernel_rfl) ?_ (Or.inr ⟨?_, ?_⟩) (by assumption) ?_; rotate_left 2; (· (simp only [List.getElem?_toArray, List.getElem?_cons_succ, List.getElem?_cons_zero]; first | done | rfl)); (· exact (fun _ _ _ h => h)); (· rfl); (· rfl))
        (try simp only [Act.put, List.setIfInBounds_toArray, List.set_cons_zero, List.set_cons_succ])
        (refine wpAnyH_take (i := 14) (oi := ?_) (v := ?_) ?_ (by kernel_rfl) (by kernel_rfl) (by kernel_rfl) ?_ (Or.inr ⟨?_, ?_⟩) (by assumption) ?_; rotate_left 2; (· (simp only [List.getElem?_toArray, List.getElem?_cons_succ, List.getElem?_cons_zero]; first | done | rfl)); (· exact (fun _ _ _ h => h)); (· rfl); (· rfl))
        (try simp only [Act.put, List.setIfInBounds_toArray, List.set_cons_zero, List.set_cons_succ])
        (refine wpAnyH_take (i := 15) (oi := ?_) (v := ?_) ?_ (by kernel_rfl) (by kernel_rfl) (by kernel_rfl) ?_ (Or.inr ⟨?_, ?_⟩) (by assumption) ?_; rotate_left 2; (· (simp only [List.getElem?_toArray, List.getElem?_cons_succ, List.getElem?_cons_zero]; first | done | rfl)); (· exact (fun _ _ _ h => h)); (· rfl); (· rfl))
        (try simp only [Act.put, List.setIfInBounds_toArray, List.set_cons_zero, List.set_cons_succ])
        (refine wpAnyH_take (i := 16) (oi := ?_) (v := ?_) ?_ (by kernel_rfl) (by kernel_rfl) (by kernel_rfl) ?_ (Or.inr ⟨?_, ?_⟩) (by assumption) ?_; rotate_left 2; (· (simp only [List.getElem?_toArray, List.getElem?_cons_succ, List.getElem?_cons_zero]; first | done | rfl)); (· exact (fun _ _ _ h => h)); (· rfl); (· rfl))
        (try simp only [Act.put, List.setIfInBounds_toArray, List.set_cons_zero, List.set_cons_succ])
        (refine wpAnyH_take (i := 17) (oi := ?_) (v := ?_) ?_ (by kernel_rfl) (by kernel_rfl) (by kernel_rfl) ?_ (Or.inr ⟨?_, ?_⟩) (by assumption) ?_; rotate_left 2; (· (simp only [List.getElem?_toArray, List.getElem?_cons_succ, List.getElem?_cons_zero]; first | done | rfl)); (· exact (fun _ _ _ h => h)); (· rfl); (· rfl))
        (try simp only [Act.put, List.setIfInBounds_toArray, List.set_cons_zero, List.set_cons_succ])
        (refine wpAnyH_take (i := 18) (oi := ?_) (v := ?_) ?_ (by kernel_rfl) (by kernel_rfl) (by kernel_rfl) ?_ (Or.inr ⟨?_, ?_⟩) (by assumption) ?_; rotate_left 2; (· (simp only [List.getElem?_toArray, List.getElem?_cons_succ, List.getElem?_cons_zero]; first | done | rfl)); (· exact (fun _ _ _ h => h)); (· rfl); (· rfl))
        (try simp only [Act.put, List.setIfInBounds_toArray, List.set_cons_zero, List.set_cons_succ])
        (refine wpAnyH_take (i := 19) (oi := ?_) (v := ?_) ?_ (by kernel_rfl) (by kernel_rfl) (by kernel_rfl) ?_ (Or.inr ⟨?_, ?_⟩) (by assumption) ?_; rotate_left 2; (· (simp only [List.getElem?_toArray, List.getElem?_cons_succ, List.getElem?_cons_zero]; first | done | rfl)); (· exact (fun _ _ _ h => h)); (· rfl); (· rfl))
        (try simp only [Act.put, List.setIfInBounds_toArray, List.set_cons_zero, List.set_cons_succ])
        (refine wpAnyH_take (i := 20) (oi := ?_) (v := ?_) ?_ (by kernel_rfl) (by kernel_rfl) (by kernel_rfl) ?_ (Or.inr ⟨?_, ?_⟩) (by assumption) ?_; rotate_left 2; (· (simp only [List.getElem?_toArray, List.getElem?_cons_succ, List.getElem?_cons_zero]; first | done | rfl)); (· exact (fun _ _ _ h => h)); (· rfl); (· rfl))
        (try simp only [Act.put, List.setIfInBounds_toArray, List.set_cons_zero, List.set_cons_succ])
        (refine wpAnyH_take (i := 21) (oi := ?_) (v := ?_) ?_ (by kernel_rfl) (by kernel_rfl) (by kernel_rfl) ?_ (Or.inr ⟨?_, ?_⟩) (by assumption) ?_; rotate_left 2; (· (simp only [List.getElem?_toArray, List.getElem?_cons_succ, List.getElem?_cons_zero]; first | done | rfl)); (· exact (fun _ _ _ h => h)); (· rfl); (· rfl))
        (try simp only [Act.put, List.setIfInBounds_toArray, List.set_cons_zero, List.set_cons_succ])
        (refine wpAnyH_take (i := 22) (oi := ?_) (v := ?_) ?_ (by kernel_rfl) (by kernel_rfl) (by kernel_rfl) ?_ (Or.inr ⟨?_, ?_⟩) (by assumption) ?_; rotate_left 2; (· (simp only [List.getElem?_toArray, List.getElem?_cons_succ, List.getElem?_cons_zero]; first | done | rfl)); (· exact (fun _ _ _ h => h)); (· rfl); (· rfl))
        (try simp only [Act.put, List.setIfInBounds_toArray, List.set_cons_zero, List.set_cons_succ])
        (refine wpAnyH_take (i := 23) (oi := ?_) (v := ?_) ?_ (by kernel_rfl) (by kernel_rfl) (by kernel_rfl) ?_ (Or.inr ⟨?_, ?_⟩) (by assumption) ?_; rotate_left 2; (· (simp only [List.getElem?_toArray, List.getElem?_cons_succ, List.getElem?_cons_zero]; first | done | rfl)); (· exact (fun _ _ _ h => h)); (· rfl); (· rfl))
        (try simp only [Act.put, List.setIfInBounds_toArray, List.set_cons_zero, List.set_cons_succ])
        (refine wpAnyH_take (i := 24) (oi := ?_) (v := ?_) ?_ (by kernel_rfl) (by kernel_rfl) (by kernel_rfl) ?_ (Or.inl ⟨?_, ?_⟩) (by assumption) ?_; rotate_left 2; (· (simp only [List.getElem?_toArray, List.getElem?_cons_succ, List.getElem?_cons_zero]; first | done | rfl)); (· exact (fun _ _ _ h => h)); (· rfl); (· (intro w hSw; (try dsimp only at hSw); go_simp; (try with_reducible rfl))))
        (try simp only [Act.put, List.setIfInBounds_toArray, List.set_cons_zero, List.set_cons_succ])
        refine wpAnyH_done (by kernel_rfl) ?_ _
        go_wp2_with fail
        exact ⟨⟨k + 1, by omega, by go_num, Lib.hid (by rw [needN, HP.out, HRO.out]; rfl), btrans HBR.out (nd_own (by assumption))⟩, by simp [intOf]; go_num⟩
      by_cases hlti : k < i
      · have n1 : (k : Int) < (i : Int) := by omega
        have n2 : decide ((k : Int) < (i : Int)) = true := by rw [decide_eq_true_iff]; exact n1
        have n3 : decide (k < i) = true := by rw [decide_eq_true_iff]; exact hlti
        have hro : hit L i k = true := by rw [hh]; rw [m3, n3]; rfl
        have HRO := Lib.hid hro
        clear hh hro
        go_wp2_with fail
        refine wp_region_held_drew (S := (fun w' => w'.cell? ⟨wr.heap.size, 0, none⟩ = some (.string ⟨x.name.toArray⟩) ∧ w'.cell? ⟨wr.heap.size, 1, none⟩ = some (.int .i64 x.op) ∧ w'.cell? ⟨wr.heap.size, 2, none⟩ = some (.int .i64 x.val.kind) ∧ w'.cell? ⟨wr.heap.size, 3, none⟩ = some (.int .i64 x.val.int) ∧ w'.cell? ⟨wr.heap.size, 4, none⟩ = some (.float .f64 x.val.num) ∧ w'.cell? ⟨wr.heap.size, 5, none⟩ = some (.string ⟨x.val.text.toArray⟩) ∧ w'.cell? ⟨wr.heap.size, 6, none⟩ = some (.bool x.val.yes) ∧ w'.cell? ⟨g, i * 7, none⟩ = some (.string ⟨y.name.toArray⟩) ∧ w'.cell? ⟨g, i * 7 + 1, none⟩ = some (.int .i64 y.op) ∧ w'.cell? ⟨g, i * 7 + 2, none⟩ = some (.int .i64 y.val.kind) ∧ w'.cell? ⟨g, i * 7 + 3, none⟩ = some (.int .i64 y.val.int) ∧ w'.cell? ⟨g, i * 7 + 4, none⟩ = some (.float .f64 y.val.num) ∧ w'.cell? ⟨g, i * 7 + 5, none⟩ = some (.string ⟨y.val.text.toArray⟩) ∧ w'.cell? ⟨g, i * 7 + 6, none⟩ = some (.bool y.val.yes) ∧ Below wr.heap.size wr w' ∧ wr.heap.size < w'.heap.size ∧ g < wr.heap.size)) (by kernel_rfl) ?_ (fun hq0 => ?_)
        · ((try dsimp only); (first | exact HST.out | assumption | exact nd_below (by assumption) (by assumption)))
        (refine wpAnyH_take (i := 0) (oi := ?_) (v := ?_) ?_ (by kernel_rfl) (by kernel_rfl) (by kernel_rfl) ?_ (Or.inl ⟨?_, ?_⟩) (by assumption) ?_; rotate_left 2; (· (simp only [List.getElem?_toArray, List.getElem?_cons_zero]; first | done | rfl)); (· exact (fun _ _ _ h => h)); (· rfl); (· (intro w hSw; (try dsimp only at hSw); go_simp; (try with_reducible rfl))))
        (try simp only [Act.put, List.setIfInBounds_toArray, List.set_cons_zero, List.set_cons_succ])
        (refine wpAnyH_take (i := 1) (oi := ?_) (v := ?_) ?_ (by kernel_rfl) (by kernel_rfl) (by kernel_rfl) ?_ (Or.inl ⟨?_, ?_⟩) (by assumption) ?_; rotate_left 2; (· (simp only [List.getElem?_toArray, List.getElem?_cons_succ, List.getElem?_cons_zero]; first | done | rfl)); (· exact (fun _ _ _ h => h)); (· rfl); (· (intro w hSw; (try dsimp only at hSw); go_simp; (try with_reducible rfl))))
        (try simp only [Act.put, List.setIfInBounds_toArray, List.set_cons_zero, List.set_cons_succ])
        (refine wpAnyH_take (i := 2) (oi := ?_) (v := ?_) ?_ (by kernel_rfl) (by kernel_rfl) (by kernel_rfl) ?_ (Or.inl ⟨?_, ?_⟩) (by assumption) ?_; rotate_left 2; (· (simp only [List.getElem?_toArray, List.getElem?_cons_succ, List.getElem?_cons_zero]; first | done | rfl)); (· exact (fun _ _ _ h => h)); (· rfl); (· (intro w hSw; (try dsimp only at hSw); go_simp; (try with_reducible rfl))))
        (try simp only [Act.put, List.setIfInBounds_toArray, List.set_cons_zero, List.set_cons_succ])
        (refine wpAnyH_take (i := 3) (oi := ?_) (v := ?_) ?_ (by kernel_rfl) (by kernel_rfl) (by kernel_rfl) ?_ (Or.inl ⟨?_, ?_⟩) (by assumption) ?_; rotate_left 2; (· (simp only [List.getElem?_toArray, List.getElem?_cons_succ, List.getElem?_cons_zero]; first | done | rfl)); (· exact (fun _ _ _ h => h)); (· rfl); (· (intro w hSw; (try dsimp only at hSw); go_simp; (try with_reducible rfl))))
        (try simp only [Act.put, List.setIfInBounds_toArray, List.set_cons_zero, List.set_cons_succ])
        (refine wpAnyH_take (i := 4) (oi := ?_) (v := ?_) ?_ (by kernel_rfl) (by kernel_rfl) (by kernel_rfl) ?_ (Or.inl ⟨?_, ?_⟩) (by assumption) ?_; rotate_left 2; (· (simp only [List.getElem?_toArray, List.getElem?_cons_succ, List.getElem?_cons_zero]; first | done | rfl)); (· exact (fun _ _ _ h => h)); (· rfl); (· (intro w hSw; (try dsimp only at hSw); go_simp; (try with_reducible rfl))))
        (try simp only [Act.put, List.setIfInBounds_toArray, List.set_cons_zero, List.set_cons_succ])
        (refine wpAnyH_take (i := 5) (oi := ?_) (v := ?_) ?_ (by kernel_rfl) (by kernel_rfl) (by kernel_rfl) ?_ (Or.inl ⟨?_, ?_⟩) (by assumption) ?_; rotate_left 2; (· (simp only [List.getElem?_toArray, List.getElem?_cons_succ, List.getElem?_cons_zero]; first | done | rfl)); (· exact (fun _ _ _ h => h)); (· rfl); (· (intro w hSw; (try dsimp only at hSw); go_simp; (try with_reducible rfl))))
        (try simp only [Act.put, List.setIfInBounds_toArray, List.set_cons_zero, List.set_cons_succ])
        (refine wpAnyH_take (i := 6) (oi := ?_) (v := ?_) ?_ (by kernel_rfl) (by kernel_rfl) (by kernel_rfl) ?_ (Or.inl ⟨?_, ?_⟩) (by assumption) ?_; rotate_left 2; (· (simp only [List.getElem?_toArray, List.getElem?_cons_succ, List.getElem?_cons_zero]; first | done | rfl)); (· exact (fun _ _ _ h => h)); (· rfl); (· (intro w hSw; (try dsimp only at hSw); go_simp; (try with_reducible rfl))))
        (try simp only [Act.put, List.setIfInBounds_toArray, List.set_cons_zero, List.set_cons_succ])
        (refine wpAnyH_take (i := 7) (oi := ?_) (v := ?_) ?_ (by kernel_rfl) (by kernel_rfl) (by kernel_rfl) ?_ (Or.inl ⟨?_, ?_⟩) (by assumption) ?_; rotate_left 2; (· (simp only [List.getElem?_toArray, List.getElem?_cons_succ, List.getElem?_cons_zero]; first | done | rfl)); (· exact (fun _ _ _ h => h)); (· rfl); (· (intro w hSw; (try dsimp only at hSw); go_simp; (try with_reducible rfl))))
        (try simp only [Act.put, List.setIfInBounds_toArray, List.set_cons_zero, List.set_cons_succ])
        (refine wpAnyH_take (i := 8) (oi := ?_) (v := ?_) ?_ (by kernel_rfl) (by kernel_rfl) (by kernel_rfl) ?_ (Or.inl ⟨?_, ?_⟩) (by assumption) ?_; rotate_left 2; (· (simp only [List.getElem?_toArray, List.getElem?_cons_succ, List.getElem?_cons_zero]; first | done | rfl)); (· exact (fun _ _ _ h => h)); (· rfl); (· (intro w hSw; (try dsimp only at hSw); go_simp; (try with_reducible rfl))))
        (try simp only [Act.put, List.setIfInBounds_toArray, List.set_cons_zero, List.set_cons_succ])
        refine wpAnyH_ready (rs := [9]) (by kernel_rfl) (by simp) ?_
        refine AllReadyH.cons (o := ?_) ?_ (fun K hK => ?_) AllReadyH.nil
        rotate_left 1
        · (simp only [List.getElem?_toArray, List.getElem?_cons_succ, List.getElem?_cons_zero]; first | done | rfl)
        go_simp
        first | (refine hK.out _ _ ?_ (fun hq1 => ?_)) | ((go_at_call 42; (first | (with_reducible refine (HI1.out _).mono ?_) | (with_reducible refine (HI2.out _).mono ?_)); rintro e w7 ⟨rfl, hb7⟩); refine hK.out _ _ ?_ (fun hq1 => ?_)) | ((go_at_call 42; (first | (with_reducible refine (HI1.out _).mono ?_) | (with_reducible refine (HI2.out _).mono ?_)); rintro e w7 ⟨rfl, hb7⟩); go_wp2_with fail; refine hK.out _ _ ?_ (fun hq1 => ?_)) | fail
        · ((try dsimp only); (first | exact HST.out | assumption | exact nd_below (by assumption) (by assumption)))
        clear hK K
        (try simp only [Act.put, List.setIfInBounds_toArray, List.set_cons_zero, List.set_cons_succ])
        clear hq0
        (refine wpAnyH_take (i := 10) (oi := ?_) (v := ?_) ?_ (by kernel_rfl) (by kernel_rfl) (by kernel_rfl) ?_ (Or.inl ⟨?_, ?_⟩) (by assumption) ?_; rotate_left 2; (· (simp only [List.getElem?_toArray, List.getElem?_cons_succ, List.getElem?_cons_zero]; first | done | rfl)); (· exact (fun _ _ _ h => h)); (· rfl); (· (intro w hSw; (try dsimp only at hSw); go_simp; (try with_reducible rfl))))
        (try simp only [Act.put, List.setIfInBounds_toArray, List.set_cons_zero, List.set_cons_succ])
        (refine wpAnyH_take (i := 11) (oi := ?_) (v := ?_) ?_ (by kernel_rfl) (by kernel_rfl) (by kernel_rfl) ?_ (Or.inl ⟨?_, ?_⟩) (by assumption) ?_; rotate_left 2; (· (simp only [List.getElem?_toArray, List.getElem?_cons_succ, List.getElem?_cons_zero]; first | done | rfl)); (· exact (fun _ _ _ h => h)); (· rfl); (· (intro w hSw; (try dsimp only at hSw); go_simp; (try with_reducible rfl))))
        (try simp only [Act.put, List.setIfInBounds_toArray, List.set_cons_zero, List.set_cons_succ])
        (refine wpAnyH_take (i := 12) (oi := ?_) (v := ?_) ?_ (by kernel_rfl) (by kernel_rfl) (by kernel_rfl) ?_ (Or.inl ⟨?_, ?_⟩) (by assumption) ?_; rotate_left 2; (· (simp only [List.getElem?_toArray, List.getElem?_cons_succ, List.getElem?_cons_zero]; first | done | rfl)); (· exact (fun _ _ _ h => h)); (· rfl); (· (intro w hSw; (try dsimp only at hSw); go_simp; (try with_reducible rfl))))
        (try simp only [Act.put, List.setIfInBounds_toArray, List.set_cons_zero, List.set_cons_succ])
        (refine wpAnyH_take (i := 13) (oi := ?_) (v := ?_) ?_ (by kernel_rfl) (by kernel_rfl) (by kernel_rfl) ?_ (Or.inl ⟨?_, ?_⟩) (by assumption) ?_; rotate_left 2; (· (simp only [List.getElem?_toArray, List.getElem?_cons_succ, List.getElem?_cons_zero]; first | done | rfl)); (· exact (fun _ _ _ h => h)); (· rfl); (· (intro w hSw; (try dsimp only at hSw); go_simp; (try with_reducible rfl))))
        (try simp only [Act.put, List.setIfInBounds_toArray, List.set_cons_zero, List.set_cons_succ])
        (refine wpAnyH_take (i := 14) (oi := ?_) (v := ?_) ?_ (by kernel_rfl) (by kernel_rfl) (by kernel_rfl) ?_ (Or.inl ⟨?_, ?_⟩) (by assumption) ?_; rotate_left 2; (· (simp only [List.getElem?_toArray, List.getElem?_cons_succ, List.getElem?_cons_zero]; first | done | rfl)); (· exact (fun _ _ _ h => h)); (· rfl); (· (intro w hSw; (try dsimp only at hSw); go_simp; (try with_reducible rfl))))
        (try simp only [Act.put, List.setIfInBounds_toArray, List.set_cons_zero, List.set_cons_succ])
        (refine wpAnyH_take (i := 15) (oi := ?_) (v := ?_) ?_ (by kernel_rfl) (by kernel_rfl) (by kernel_rfl) ?_ (Or.inl ⟨?_, ?_⟩) (by assumption) ?_; rotate_left 2; (· (simp only [List.getElem?_toArray, List.getElem?_cons_succ, List.getElem?_cons_zero]; first | done | rfl)); (· exact (fun _ _ _ h => h)); (· rfl); (· (intro w hSw; (try dsimp only at hSw); go_simp; (try with_reducible rfl))))
        (try simp only [Act.put, List.setIfInBounds_toArray, List.set_cons_zero, List.set_cons_succ])
        (refine wpAnyH_take (i := 16) (oi := ?_) (v := ?_) ?_ (by kernel_rfl) (by kernel_rfl) (by kernel_rfl) ?_ (Or.inr ⟨?_, ?_⟩) (by assumption) ?_; rotate_left 2; (· (simp only [List.getElem?_toArray, List.getElem?_cons_succ, List.getElem?_cons_zero]; first | done | rfl)); (· exact (fun _ _ _ h => h)); (· rfl); (· rfl))
        (try simp only [Act.put, List.setIfInBounds_toArray, List.set_cons_zero, List.set_cons_succ])
        (refine wpAnyH_take (i := 17) (oi := ?_) (v := ?_) ?_ (by kernel_rfl) (by kernel_rfl) (by kernel_rfl) ?_ (Or.inr ⟨?_, ?_⟩) (by assumption) ?_; rotate_left 2; (· (simp only [List.getElem?_toArray, List.getElem?_cons_succ, List.getElem?_cons_zero]; first | done | rfl)); (· exact (fun _ _ _ h => h)); (· rfl); (· rfl))
        (try simp only [Act.put, List.setIfInBounds_toArray, List.set_cons_zero, List.set_cons_succ])
        (refine wpAnyH_take (i := 18) (oi := ?_) (v := ?_) ?_ (by kernel_rfl) (by kernel_rfl) (by kernel_rfl) ?_ (Or.inr ⟨?_, ?_⟩) (by assumption) ?_; rotate_left 2; (· (simp only [List.getElem?_toArray, List.getElem?_cons_succ, List.getElem?_cons_zero]; first | done | rfl)); (· exact (fun _ _ _ h => h)); (· rfl); (· rfl))
        (try simp only [Act.put, List.setIfInBounds_toArray, List.set_cons_zero, List.set_cons_succ])
        (refine wpAnyH_take (i := 19) (oi := ?_) (v := ?_) ?_ (by kernel_rfl) (by kernel_rfl) (by kernel_rfl) ?_ (Or.inr ⟨?_, ?_⟩) (by assumption) ?_; rotate_left 2; (· (simp only [List.getElem?_toArray, List.getElem?_cons_succ, List.getElem?_cons_zero]; first | done | rfl)); (· exact (fun _ _ _ h => h)); (· rfl); (· rfl))
        (try simp only [Act.put, List.setIfInBounds_toArray, List.set_cons_zero, List.set_cons_succ])
        (refine wpAnyH_take (i := 20) (oi := ?_) (v := ?_) ?_ (by kernel_rfl) (by kernel_rfl) (by kernel_rfl) ?_ (Or.inr ⟨?_, ?_⟩) (by assumption) ?_; rotate_left 2; (· (simp only [List.getElem?_toArray, List.getElem?_cons_succ, List.getElem?_cons_zero]; first | done | rfl)); (· exact (fun _ _ _ h => h)); (· rfl); (· rfl))
        (try simp only [Act.put, List.setIfInBounds_toArray, List.set_cons_zero, List.set_cons_succ])
        (refine wpAnyH_take (i := 21) (oi := ?_) (v := ?_) ?_ (by kernel_rfl) (by kernel_rfl) (by kernel_rfl) ?_ (Or.inr ⟨?_, ?_⟩) (by assumption) ?_; rotate_left 2; (· (simp only [List.getElem?_toArray, List.getElem?_cons_succ, List.getElem?_cons_zero]; first | done | rfl)); (· exact (fun _ _ _ h => h)); (· rfl); (· rfl))
        (try simp only [Act.put, List.setIfInBounds_toArray, List.set_cons_zero, List.set_cons_succ])
        (refine wpAnyH_take (i := 22) (oi := ?_) (v := ?_) ?_ (by kernel_rfl) (by kernel_rfl) (by kernel_rfl) ?_ (Or.inr ⟨?_, ?_⟩) (by assumption) ?_; rotate_left 2; (· (simp only [List.getElem?_toArray, List.getElem?_cons_succ, List.getElem?_cons_zero]; first | done | rfl)); (· exact (fun _ _ _ h => h)); (· rfl); (· rfl))
        (try simp only [Act.put, List.setIfInBounds_toArray, List.set_cons_zero, List.set_cons_succ])
        (refine wpAnyH_take (i := 23) (oi := ?_) (v := ?_) ?_ (by kernel_rfl) (by kernel_rfl) (by kernel_rfl) ?_ (Or.inl ⟨?_, ?_⟩) (by assumption) ?_; rotate_left 2; (· (simp only [List.getElem?_toArray, List.getElem?_cons_succ, List.getElem?_cons_zero]; first | done | rfl)); (· exact (fun _ _ _ h => h)); (· rfl); (· (intro w hSw; (try dsimp only at hSw); go_simp; (try with_reducible rfl))))
        (try simp only [Act.put, List.setIfInBounds_toArray, List.set_cons_zero, List.set_cons_succ])
        (refine wpAnyH_take (i := 24) (oi := ?_) (v := ?_) ?_ (by kernel_rfl) (by kernel_rfl) (by kernel_rfl) ?_ (Or.inl ⟨?_, ?_⟩) (by assumption) ?_; rotate_left 2; (· (simp only [List.getElem?_toArray, List.getElem?_cons_succ, List.getElem?_cons_zero]; first | done | rfl)); (· exact (fun _ _ _ h => h)); (· rfl); (· (intro w hSw; (try dsimp only at hSw); go_simp; (try with_reducible rfl))))
        (try simp only [Act.put, List.setIfInBounds_toArray, List.set_cons_zero, List.set_cons_succ])
        refine wpAnyH_done (by kernel_rfl) ?_ _
        go_wp2_with fail
        go_ret
        exact ⟨ret_bool (by unfold needB; rw [needN_hit L i k _ hlt HRO.out]), btrans HBR.out (nd_own (by assumption))⟩
      have n1 : ¬ (k : Int) < (i : Int) := by omega
      have n2 : decide ((k : Int) < (i : Int)) = false := by rw [decide_eq_false_iff_not]; exact n1
      have n3 : decide (k < i) = false := by rw [decide_eq_false_iff_not]; exact hlti
      cases b2
      · skip
        have hro : hit L i k = true := by rw [hh]; rw [m3, n3]; rfl
        have HRO := Lib.hid hro
        clear hh hro
        go_wp2_with fail
        refine wp_region_held_drew (S := (fun w' => w'.cell? ⟨wr.heap.size, 0, none⟩ = some (.string ⟨x.name.toArray⟩) ∧ w'.cell? ⟨wr.heap.size, 1, none⟩ = some (.int .i64 x.op) ∧ w'.cell? ⟨wr.heap.size, 2, none⟩ = some (.int .i64 x.val.kind) ∧ w'.cell? ⟨wr.heap.size, 3, none⟩ = some (.int .i64 x.val.int) ∧ w'.cell? ⟨wr.heap.size, 4, none⟩ = some (.float .f64 x.val.num) ∧ w'.cell? ⟨wr.heap.size, 5, none⟩ = some (.string ⟨x.val.text.toArray⟩) ∧ w'.cell? ⟨wr.heap.size, 6, none⟩ = some (.bool x.val.yes) ∧ w'.cell? ⟨g, i * 7, none⟩ = some (.string ⟨y.name.toArray⟩) ∧ w'.cell? ⟨g, i * 7 + 1, none⟩ = some (.int .i64 y.op) ∧ w'.cell? ⟨g, i * 7 + 2, none⟩ = some (.int .i64 y.val.kind) ∧ w'.cell? ⟨g, i * 7 + 3, none⟩ = some (.int .i64 y.val.int) ∧ w'.cell? ⟨g, i * 7 + 4, none⟩ = some (.float .f64 y.val.num) ∧ w'.cell? ⟨g, i * 7 + 5, none⟩ = some (.string ⟨y.val.text.toArray⟩) ∧ w'.cell? ⟨g, i * 7 + 6, none⟩ = some (.bool y.val.yes) ∧ Below wr.heap.size wr w' ∧ wr.heap.size < w'.heap.size ∧ g < wr.heap.size)) (by kernel_rfl) ?_ (fun hq0 => ?_)
        · ((try dsimp only); (first | exact HST.out | assumption | exact nd_below (by assumption) (by assumption)))
        (refine wpAnyH_take (i := 0) (oi := ?_) (v := ?_) ?_ (by kernel_rfl) (by kernel_rfl) (by kernel_rfl) ?_ (Or.inl ⟨?_, ?_⟩) (by assumption) ?_; rotate_left 2; (· (simp only [List.getElem?_toArray, List.getElem?_cons_zero]; first | done | rfl)); (· exact (fun _ _ _ h => h)); (· rfl); (· (intro w hSw; (try dsimp only at hSw); go_simp; (try with_reducible rfl))))
        (try simp only [Act.put, List.setIfInBounds_toArray, List.set_cons_zero, List.set_cons_succ])
        (refine wpAnyH_take (i := 1) (oi := ?_) (v := ?_) ?_ (by kernel_rfl) (by kernel_rfl) (by kernel_rfl) ?_ (Or.inl ⟨?_, ?_⟩) (by assumption) ?_; rotate_left 2; (· (simp only [List.getElem?_toArray, List.getElem?_cons_succ, List.getElem?_cons_zero]; first | done | rfl)); (· exact (fun _ _ _ h => h)); (· rfl); (· (intro w hSw; (try dsimp only at hSw); go_simp; (try with_reducible rfl))))
        (try simp only [Act.put, List.setIfInBounds_toArray, List.set_cons_zero, List.set_cons_succ])
        (refine wpAnyH_take (i := 2) (oi := ?_) (v := ?_) ?_ (by kernel_rfl) (by kernel_rfl) (by kernel_rfl) ?_ (Or.inl ⟨?_, ?_⟩) (by assumption) ?_; rotate_left 2; (· (simp only [List.getElem?_toArray, List.getElem?_cons_succ, List.getElem?_cons_zero]; first | done | rfl)); (· exact (fun _ _ _ h => h)); (· rfl); (· (intro w hSw; (try dsimp only at hSw); go_simp; (try with_reducible rfl))))
        (try simp only [Act.put, List.setIfInBounds_toArray, List.set_cons_zero, List.set_cons_succ])
        (refine wpAnyH_take (i := 3) (oi := ?_) (v := ?_) ?_ (by kernel_rfl) (by kernel_rfl) (by kernel_rfl) ?_ (Or.inl ⟨?_, ?_⟩) (by assumption) ?_; rotate_left 2; (· (simp only [List.getElem?_toArray, List.getElem?_cons_succ, List.getElem?_cons_zero]; first | done | rfl)); (· exact (fun _ _ _ h => h)); (· rfl); (· (intro w hSw; (try dsimp only at hSw); go_simp; (try with_reducible rfl))))
        (try simp only [Act.put, List.setIfInBounds_toArray, List.set_cons_zero, List.set_cons_succ])
        (refine wpAnyH_take (i := 4) (oi := ?_) (v := ?_) ?_ (by kernel_rfl) (by kernel_rfl) (by kernel_rfl) ?_ (Or.inl ⟨?_, ?_⟩) (by assumption) ?_; rotate_left 2; (· (simp only [List.getElem?_toArray, List.getElem?_cons_succ, List.getElem?_cons_zero]; first | done | rfl)); (· exact (fun _ _ _ h => h)); (· rfl); (· (intro w hSw; (try dsimp only at hSw); go_simp; (try with_reducible rfl))))
        (try simp only [Act.put, List.setIfInBounds_toArray, List.set_cons_zero, List.set_cons_succ])
        (refine wpAnyH_take (i := 5) (oi := ?_) (v := ?_) ?_ (by kernel_rfl) (by kernel_rfl) (by kernel_rfl) ?_ (Or.inl ⟨?_, ?_⟩) (by assumption) ?_; rotate_left 2; (· (simp only [List.getElem?_toArray, List.getElem?_cons_succ, List.getElem?_cons_zero]; first | done | rfl)); (· exact (fun _ _ _ h => h)); (· rfl); (· (intro w hSw; (try dsimp only at hSw); go_simp; (try with_reducible rfl))))
        (try simp only [Act.put, List.setIfInBounds_toArray, List.set_cons_zero, List.set_cons_succ])
        (refine wpAnyH_take (i := 6) (oi := ?_) (v := ?_) ?_ (by kernel_rfl) (by kernel_rfl) (by kernel_rfl) ?_ (Or.inl ⟨?_, ?_⟩) (by assumption) ?_; rotate_left 2; (· (simp only [List.getElem?_toArray, List.getElem?_cons_succ, List.getElem?_cons_zero]; first | done | rfl)); (· exact (fun _ _ _ h => h)); (· rfl); (· (intro w hSw; (try dsimp only at hSw); go_simp; (try with_reducible rfl))))
        (try simp only [Act.put, List.setIfInBounds_toArray, List.set_cons_zero, List.set_cons_succ])
        (refine wpAnyH_take (i := 7) (oi := ?_) (v := ?_) ?_ (by kernel_rfl) (by kernel_rfl) (by kernel_rfl) ?_ (Or.inl ⟨?_, ?_⟩) (by assumption) ?_; rotate_left 2; (· (simp only [List.getElem?_toArray, List.getElem?_cons_succ, List.getElem?_cons_zero]; first | done | rfl)); (· exact (fun _ _ _ h => h)); (· rfl); (· (intro w hSw; (try dsimp only at hSw); go_simp; (try with_reducible rfl))))
        (try simp only [Act.put, List.setIfInBounds_toArray, List.set_cons_zero, List.set_cons_succ])
        (refine wpAnyH_take (i := 8) (oi := ?_) (v := ?_) ?_ (by kernel_rfl) (by kernel_rfl) (by kernel_rfl) ?_ (Or.inl ⟨?_, ?_⟩) (by assumption) ?_; rotate_left 2; (· (simp only [List.getElem?_toArray, List.getElem?_cons_succ, List.getElem?_cons_zero]; first | done | rfl)); (· exact (fun _ _ _ h => h)); (· rfl); (· (intro w hSw; (try dsimp only at hSw); go_simp; (try with_reducible rfl))))
        (try simp only [Act.put, List.setIfInBounds_toArray, List.set_cons_zero, List.set_cons_succ])
        refine wpAnyH_ready (rs := [9]) (by kernel_rfl) (by simp) ?_
        refine AllReadyH.cons (o := ?_) ?_ (fun K hK => ?_) AllReadyH.nil
        rotate_left 1
        · (simp only [List.getElem?_toArray, List.getElem?_cons_succ, List.getElem?_cons_zero]; first | done | rfl)
        go_simp
        first | (refine hK.out _ _ ?_ (fun hq1 => ?_)) | ((go_at_call 42; (first | (with_reducible refine (HI1.out _).mono ?_) | (with_reducible refine (HI2.out _).mono ?_)); rintro e w7 ⟨rfl, hb7⟩); refine hK.out _ _ ?_ (fun hq1 => ?_)) | ((go_at_call 42; (first | (with_reducible refine (HI1.out _).mono ?_) | (with_reducible refine (HI2.out _).mono ?_)); rintro e w7 ⟨rfl, hb7⟩); go_wp2_with fail; refine hK.out _ _ ?_ (fun hq1 => ?_)) | fail
        · ((try dsimp only); (first | exact HST.out | assumption | exact nd_below (by assumption) (by assumption)))
        clear hK K
        (try simp only [Act.put, List.setIfInBounds_toArray, List.set_cons_zero, List.set_cons_succ])
        clear hq0
        (refine wpAnyH_take (i := 10) (oi := ?_) (v := ?_) ?_ (by kernel_rfl) (by kernel_rfl) (by kernel_rfl) ?_ (Or.inl ⟨?_, ?_⟩) (by assumption) ?_; rotate_left 2; (· (simp only [List.getElem?_toArray, List.getElem?_cons_succ, List.getElem?_cons_zero]; first | done | rfl)); (· exact (fun _ _ _ h => h)); (· rfl); (· (intro w hSw; (try dsimp only at hSw); go_simp; (try with_reducible rfl))))
        (try simp only [Act.put, List.setIfInBounds_toArray, List.set_cons_zero, List.set_cons_succ])
        (refine wpAnyH_take (i := 11) (oi := ?_) (v := ?_) ?_ (by kernel_rfl) (by kernel_rfl) (by kernel_rfl) ?_ (Or.inl ⟨?_, ?_⟩) (by assumption) ?_; rotate_left 2; (· (simp only [List.getElem?_toArray, List.getElem?_cons_succ, List.getElem?_cons_zero]; first | done | rfl)); (· exact (fun _ _ _ h => h)); (· rfl); (· (intro w hSw; (try dsimp only at hSw); go_simp; (try with_reducible rfl))))
        (try simp only [Act.put, List.setIfInBounds_toArray, List.set_cons_zero, List.set_cons_succ])
        (refine wpAnyH_take (i := 12) (oi := ?_) (v := ?_) ?_ (by kernel_rfl) (by kernel_rfl) (by kernel_rfl) ?_ (Or.inl ⟨?_, ?_⟩) (by assumption) ?_; rotate_left 2; (· (simp only [List.getElem?_toArray, List.getElem?_cons_succ, List.getElem?_cons_zero]; first | done | rfl)); (· exact (fun _ _ _ h => h)); (· rfl); (· (intro w hSw; (try dsimp only at hSw); go_simp; (try with_reducible rfl))))
        (try simp only [Act.put, List.setIfInBounds_toArray, List.set_cons_zero, List.set_cons_succ])
        (refine wpAnyH_take (i := 13) (oi := ?_) (v := ?_) ?_ (by kernel_rfl) (by kernel_rfl) (by kernel_rfl) ?_ (Or.inl ⟨?_, ?_⟩) (by assumption) ?_; rotate_left 2; (· (simp only [List.getElem?_toArray, List.getElem?_cons_succ, List.getElem?_cons_zero]; first | done | rfl)); (· exact (fun _ _ _ h => h)); (· rfl); (· (intro w hSw; (try dsimp only at hSw); go_simp; (try with_reducible rfl))))
        (try simp only [Act.put, List.setIfInBounds_toArray, List.set_cons_zero, List.set_cons_succ])
        (refine wpAnyH_take (i := 14) (oi := ?_) (v := ?_) ?_ (by kernel_rfl) (by kernel_rfl) (by kernel_rfl) ?_ (Or.inl ⟨?_, ?_⟩) (by assumption) ?_; rotate_left 2; (· (simp only [List.getElem?_toArray, List.getElem?_cons_succ, List.getElem?_cons_zero]; first | done | rfl)); (· exact (fun _ _ _ h => h)); (· rfl); (· (intro w hSw; (try dsimp only at hSw); go_simp; (try with_reducible rfl))))
        (try simp only [Act.put, List.setIfInBounds_toArray, List.set_cons_zero, List.set_cons_succ])
        (refine wpAnyH_take (i := 15) (oi := ?_) (v := ?_) ?_ (by kernel_rfl) (by kernel_rfl) (by kernel_rfl) ?_ (Or.inl ⟨?_, ?_⟩) (by assumption) ?_; rotate_left 2; (· (simp only [List.getElem?_toArray, List.getElem?_cons_succ, List.getElem?_cons_zero]; first | done | rfl)); (· exact (fun _ _ _ h => h)); (· rfl); (· (intro w hSw; (try dsimp only at hSw); go_simp; (try with_reducible rfl))))
        (try simp only [Act.put, List.setIfInBounds_toArray, List.set_cons_zero, List.set_cons_succ])
        (refine wpAnyH_take (i := 16) (oi := ?_) (v := ?_) ?_ (by kernel_rfl) (by kernel_rfl) (by kernel_rfl) ?_ (Or.inl ⟨?_, ?_⟩) (by assumption) ?_; rotate_left 2; (· (simp only [List.getElem?_toArray, List.getElem?_cons_succ, List.getElem?_cons_zero]; first | done | rfl)); (· exact (fun _ _ _ h => h)); (· rfl); (· (intro w hSw; (try dsimp only at hSw); go_simp; (try with_reducible rfl))))
        (try simp only [Act.put, List.setIfInBounds_toArray, List.set_cons_zero, List.set_cons_succ])
        (refine wpAnyH_take (i := 17) (oi := ?_) (v := ?_) ?_ (by kernel_rfl) (by kernel_rfl) (by kernel_rfl) ?_ (Or.inl ⟨?_, ?_⟩) (by assumption) ?_; rotate_left 2; (· (simp only [List.getElem?_toArray, List.getElem?_cons_succ, List.getElem?_cons_zero]; first | done | rfl)); (· exact (fun _ _ _ h => h)); (· rfl); (· (intro w hSw; (try dsimp only at hSw); go_simp; (try with_reducible rfl))))
        (try simp only [Act.put, List.setIfInBounds_toArray, List.set_cons_zero, List.set_cons_succ])
        (refine wpAnyH_take (i := 18) (oi := ?_) (v := ?_) ?_ (by kernel_rfl) (by kernel_rfl) (by kernel_rfl) ?_ (Or.inl ⟨?_, ?_⟩) (by assumption) ?_; rotate_left 2; (· (simp only [List.getElem?_toArray, List.getElem?_cons_succ, List.getElem?_cons_zero]; first | done | rfl)); (· exact (fun _ _ _ h => h)); (· rfl); (· (intro w hSw; (try dsimp only at hSw); go_simp; (try with_reducible rfl))))
        (try simp only [Act.put, List.setIfInBounds_toArray, List.set_cons_zero, List.set_cons_succ])
        (refine wpAnyH_take (i := 19) (oi := ?_) (v := ?_) ?_ (by kernel_rfl) (by kernel_rfl) (by kernel_rfl) ?_ (Or.inl ⟨?_, ?_⟩) (by assumption) ?_; rotate_left 2; (· (simp only [List.getElem?_toArray, List.getElem?_cons_succ, List.getElem?_cons_zero]; first | done | rfl)); (· exact (fun _ _ _ h => h)); (· rfl); (· (intro w hSw; (try dsimp only at hSw); go_simp; (try with_reducible rfl))))
        (try simp only [Act.put, List.setIfInBounds_toArray, List.set_cons_zero, List.set_cons_succ])
        (refine wpAnyH_take (i := 20) (oi := ?_) (v := ?_) ?_ (by kernel_rfl) (by kernel_rfl) (by kernel_rfl) ?_ (Or.inl ⟨?_, ?_⟩) (by assumption) ?_; rotate_left 2; (· (simp only [List.getElem?_toArray, List.getElem?_cons_succ, List.getElem?_cons_zero]; first | done | rfl)); (· exact (fun _ _ _ h => h)); (· rfl); (· (intro w hSw; (try dsimp only at hSw); go_simp; (try with_reducible rfl))))
        (try simp only [Act.put, List.setIfInBounds_toArray, List.set_cons_zero, List.set_cons_succ])
        refine wpAnyH_ready (rs := [21]) (by kernel_rfl) (by simp) ?_
        refine AllReadyH.cons (o := ?_) ?_ (fun K hK => ?_) AllReadyH.nil
        rotate_left 1
        · (simp only [List.getElem?_toArray, List.getElem?_cons_succ, List.getElem?_cons_zero]; first | done | rfl)
        go_simp
        first | (refine hK.out _ _ ?_ (fun hq2 => ?_)) | ((go_at_call 42; (first | (with_reducible refine (HI1.out _).mono ?_) | (with_reducible refine (HI2.out _).mono ?_)); rintro e w7 ⟨rfl, hb7⟩); refine hK.out _ _ ?_ (fun hq2 => ?_)) | ((go_at_call 42; (first | (with_reducible refine (HI1.out _).mono ?_) | (with_reducible refine (HI2.out _).mono ?_)); rintro e w7 ⟨rfl, hb7⟩); go_wp2_with fail; refine hK.out _ _ ?_ (fun hq2 => ?_)) | fail
        · ((try dsimp only); (first | exact HST.out | assumption | exact nd_below (by assumption) (by assumption)))
        clear hK K
        (try simp only [Act.put, List.setIfInBounds_toArray, List.set_cons_zero, List.set_cons_succ])
        clear hq1
        (refine wpAnyH_take (i := 22) (oi := ?_) (v := ?_) ?_ (by kernel_rfl) (by kernel_rfl) (by kernel_rfl) ?_ (Or.inl ⟨?_, ?_⟩) (by assumption) ?_; rotate_left 2; (· (simp only [List.getElem?_toArray, List.getElem?_cons_succ, List.getElem?_cons_zero]; first | done | rfl)); (· exact (fun _ _ _ h => h)); (· rfl); (· (intro w hSw; (try dsimp only at hSw); go_simp; (try with_reducible rfl))))
        (try simp only [Act.put, List.setIfInBounds_toArray, List.set_cons_zero, List.set_cons_succ])
        (refine wpAnyH_take (i := 23) (oi := ?_) (v := ?_) ?_ (by kernel_rfl) (by kernel_rfl) (by kernel_rfl) ?_ (Or.inl ⟨?_, ?_⟩) (by assumption) ?_; rotate_left 2; (· (simp only [List.getElem?_toArray, List.getElem?_cons_succ, List.getElem?_cons_zero]; first | done | rfl)); (· exact (fun _ _ _ h => h)); (· rfl); (· (intro w hSw; (try dsimp only at hSw); go_simp; (try with_reducible rfl))))
        (try simp only [Act.put, List.setIfInBounds_toArray, List.set_cons_zero, List.set_cons_succ])
        (refine wpAnyH_take (i := 24) (oi := ?_) (v := ?_) ?_ (by kernel_rfl) (by kernel_rfl) (by kernel_rfl) ?_ (Or.inl ⟨?_, ?_⟩) (by assumption) ?_; rotate_left 2; (· (simp only [List.getElem?_toArray, List.getElem?_cons_succ, List.getElem?_cons_zero]; first | done | rfl)); (· exact (fun _ _ _ h => h)); (· rfl); (· (intro w hSw; (try dsimp only at hSw); go_simp; (try with_reducible rfl))))
        (try simp only [Act.put, List.setIfInBounds_toArray, List.set_cons_zero, List.set_cons_succ])
        refine wpAnyH_done (by kernel_rfl) ?_ _
        go_wp2_with fail
        go_ret
        exact ⟨ret_bool (by unfold needB; rw [needN_hit L i k _ hlt HRO.out]), btrans HBR.out (nd_own (by assumption))⟩
      · skip
        have hro : hit L i k = false := by rw [hh]; rw [m3, n3]; rfl
        have HRO := Lib.hid hro
        clear hh hro
        go_wp2_with fail
        refine wp_region_held_drew (S := (fun w' => w'.cell? ⟨wr.heap.size, 0, none⟩ = some (.string ⟨x.name.toArray⟩) ∧ w'.cell? ⟨wr.heap.size, 1, none⟩ = some (.int .i64 x.op) ∧ w'.cell? ⟨wr.heap.size, 2, none⟩ = some (.int .i64 x.val.kind) ∧ w'.cell? ⟨wr.heap.size, 3, none⟩ = some (.int .i64 x.val.int) ∧ w'.cell? ⟨wr.heap.size, 4, none⟩ = some (.float .f64 x.val.num) ∧ w'.cell? ⟨wr.heap.size, 5, none⟩ = some (.string ⟨x.val.text.toArray⟩) ∧ w'.cell? ⟨wr.heap.size, 6, none⟩ = some (.bool x.val.yes) ∧ w'.cell? ⟨g, i * 7, none⟩ = some (.string ⟨y.name.toArray⟩) ∧ w'.cell? ⟨g, i * 7 + 1, none⟩ = some (.int .i64 y.op) ∧ w'.cell? ⟨g, i * 7 + 2, none⟩ = some (.int .i64 y.val.kind) ∧ w'.cell? ⟨g, i * 7 + 3, none⟩ = some (.int .i64 y.val.int) ∧ w'.cell? ⟨g, i * 7 + 4, none⟩ = some (.float .f64 y.val.num) ∧ w'.cell? ⟨g, i * 7 + 5, none⟩ = some (.string ⟨y.val.text.toArray⟩) ∧ w'.cell? ⟨g, i * 7 + 6, none⟩ = some (.bool y.val.yes) ∧ Below wr.heap.size wr w' ∧ wr.heap.size < w'.heap.size ∧ g < wr.heap.size)) (by kernel_rfl) ?_ (fun hq0 => ?_)
        · ((try dsimp only); (first | exact HST.out | assumption | exact nd_below (by assumption) (by assumption)))
        (refine wpAnyH_take (i := 0) (oi := ?_) (v := ?_) ?_ (by kernel_rfl) (by kernel_rfl) (by kernel_rfl) ?_ (Or.inl ⟨?_, ?_⟩) (by assumption) ?_; rotate_left 2; (· (simp only [List.getElem?_toArray, List.getElem?_cons_zero]; first | done | rfl)); (· exact (fun _ _ _ h => h)); (· rfl); (· (intro w hSw; (try dsimp only at hSw); go_simp; (try with_reducible rfl))))
        (try simp only [Act.put, List.setIfInBounds_toArray, List.set_cons_zero, List.set_cons_succ])
        (refine wpAnyH_take (i := 1) (oi := ?_) (v := ?_) ?_ (by kernel_rfl) (by kernel_rfl) (by kernel_rfl) ?_ (Or.inl ⟨?_, ?_⟩) (by assumption) ?_; rotate_left 2; (· (simp only [List.getElem?_toArray, List.getElem?_cons_succ, List.getElem?_cons_zero]; first | done | rfl)); (· exact (fun _ _ _ h => h)); (· rfl); (· (intro w hSw; (try dsimp only at hSw); go_simp; (try with_reducible rfl))))
        (try simp only [Act.put, List.setIfInBounds_toArray, List.set_cons_zero, List.set_cons_succ])
        (refine wpAnyH_take (i := 2) (oi := ?_) (v := ?_) ?_ (by kernel_rfl) (by kernel_rfl) (by kernel_rfl) ?_ (Or.inl ⟨?_, ?_⟩) (by assumption) ?_; rotate_left 2; (· (simp only [List.getElem?_toArray, List.getElem?_cons_succ, List.getElem?_cons_zero]; first | done | rfl)); (· exact (fun _ _ _ h => h)); (· rfl); (· (intro w hSw; (try dsimp only at hSw); go_simp; (try with_reducible rfl))))
        (try simp only [Act.put, List.setIfInBounds_toArray, List.set_cons_zero, List.set_cons_succ])
        (refine wpAnyH_take (i := 3) (oi := ?_) (v := ?_) ?_ (by kernel_rfl) (by kernel_rfl) (by kernel_rfl) ?_ (Or.inl ⟨?_, ?_⟩) (by assumption) ?_; rotate_left 2; (· (simp only [List.getElem?_toArray, List.getElem?_cons_succ, List.getElem?_cons_zero]; first | done | rfl)); (· exact (fun _ _ _ h => h)); (· rfl); (· (intro w hSw; (try dsimp only at hSw); go_simp; (try with_reducible rfl))))
        (try simp only [Act.put, List.setIfInBounds_toArray, List.set_cons_zero, List.set_cons_succ])
        (refine wpAnyH_take (i := 4) (oi := ?_) (v := ?_) ?_ (by kernel_rfl) (by kernel_rfl) (by kernel_rfl) ?_ (Or.inl ⟨?_, ?_⟩) (by assumption) ?_; rotate_left 2; (· (simp only [List.getElem?_toArray, List.getElem?_cons_succ, List.getElem?_cons_zero]; first | done | rfl)); (· exact (fun _ _ _ h => h)); (· rfl); (· (intro w hSw; (try dsimp only at hSw); go_simp; (try with_reducible rfl))))
        (try simp only [Act.put, List.setIfInBounds_toArray, List.set_cons_zero, List.set_cons_succ])
        (refine wpAnyH_take (i := 5) (oi := ?_) (v := ?_) ?_ (by kernel_rfl) (by kernel_rfl) (by kernel_rfl) ?_ (Or.inl ⟨?_, ?_⟩) (by assumption) ?_; rotate_left 2; (· (simp only [List.getElem?_toArray, List.getElem?_cons_succ, List.getElem?_cons_zero]; first | done | rfl)); (· exact (fun _ _ _ h => h)); (· rfl); (· (intro w hSw; (try dsimp only at hSw); go_simp; (try with_reducible rfl))))
        (try simp only [Act.put, List.setIfInBounds_toArray, List.set_cons_zero, List.set_cons_succ])
        (refine wpAnyH_take (i := 6) (oi := ?_) (v := ?_) ?_ (by kernel_rfl) (by kernel_rfl) (by kernel_rfl) ?_ (Or.inl ⟨?_, ?_⟩) (by assumption) ?_; rotate_left 2; (· (simp only [List.getElem?_toArray, List.getElem?_cons_succ, List.getElem?_cons_zero]; first | done | rfl)); (· exact (fun _ _ _ h => h)); (· rfl); (· (intro w hSw; (try dsimp only at hSw); go_simp; (try with_reducible rfl))))
        (try simp only [Act.put, List.setIfInBounds_toArray, List.set_cons_zero, List.set_cons_succ])
        (refine wpAnyH_take (i := 7) (oi := ?_) (v := ?_) ?_ (by kernel_rfl) (by kernel_rfl) (by kernel_rfl) ?_ (Or.inl ⟨?_, ?_⟩) (by assumption) ?_; rotate_left 2; (· (simp only [List.getElem?_toArray, List.getElem?_cons_succ, List.getElem?_cons_zero]; first | done | rfl)); (· exact (fun _ _ _ h => h)); (· rfl); (· (intro w hSw; (try dsimp only at hSw); go_simp; (try with_reducible rfl))))
        (try simp only [Act.put, List.setIfInBounds_toArray, List.set_cons_zero, List.set_cons_succ])
        (refine wpAnyH_take (i := 8) (oi := ?_) (v := ?_) ?_ (by kernel_rfl) (by kernel_rfl) (by kernel_rfl) ?_ (Or.inl ⟨?_, ?_⟩) (by assumption) ?_; rotate_left 2; (· (simp only [List.getElem?_toArray, List.getElem?_cons_succ, List.getElem?_cons_zero]; first | done | rfl)); (· exact (fun _ _ _ h => h)); (· rfl); (· (intro w hSw; (try dsimp only at hSw); go_simp; (try with_reducible rfl))))
        (try simp only [Act.put, List.setIfInBounds_toArray, List.set_cons_zero, List.set_cons_succ])
        refine wpAnyH_ready (rs := [9]) (by kernel_rfl) (by simp) ?_
        refine AllReadyH.cons (o := ?_) ?_ (fun K hK => ?_) AllReadyH.nil
        rotate_left 1
        · (simp only [List.getElem?_toArray, List.getElem?_cons_succ, List.getElem?_cons_zero]; first | done | rfl)
        go_simp
        first | (refine hK.out _ _ ?_ (fun hq1 => ?_)) | ((go_at_call 42; (first | (with_reducible refine (HI1.out _).mono ?_) | (with_reducible refine (HI2.out _).mono ?_)); rintro e w7 ⟨rfl, hb7⟩); refine hK.out _ _ ?_ (fun hq1 => ?_)) | ((go_at_call 42; (first | (with_reducible refine (HI1.out _).mono ?_) | (with_reducible refine (HI2.out _).mono ?_)); rintro e w7 ⟨rfl, hb7⟩); go_wp2_with fail; refine hK.out _ _ ?_ (fun hq1 => ?_)) | fail
        · ((try dsimp only); (first | exact HST.out | assumption | exact nd_below (by assumption) (by assumption)))
        clear hK K
        (try simp only [Act.put, List.setIfInBounds_toArray, List.set_cons_zero, List.set_cons_succ])
        clear hq0
        (refine wpAnyH_take (i := 10) (oi := ?_) (v := ?_) ?_ (by kernel_rfl) (by kernel_rfl) (by kernel_rfl) ?_ (Or.inl ⟨?_, ?_⟩) (by assumption) ?_; rotate_left 2; (· (simp only [List.getElem?_toArray, List.getElem?_cons_succ, List.getElem?_cons_zero]; first | done | rfl)); (· exact (fun _ _ _ h => h)); (· rfl); (· (intro w hSw; (try dsimp only at hSw); go_simp; (try with_reducible rfl))))
        (try simp only [Act.put, List.setIfInBounds_toArray, List.set_cons_zero, List.set_cons_succ])
        (refine wpAnyH_take (i := 11) (oi := ?_) (v := ?_) ?_ (by kernel_rfl) (by kernel_rfl) (by kernel_rfl) ?_ (Or.inl ⟨?_, ?_⟩) (by assumption) ?_; rotate_left 2; (· (simp only [List.getElem?_toArray, List.getElem?_cons_succ, List.getElem?_cons_zero]; first | done | rfl)); (· exact (fun _ _ _ h => h)); (· rfl); (· (intro w hSw; (try dsimp only at hSw); go_simp; (try with_reducible rfl))))
        (try simp only [Act.put, List.setIfInBounds_toArray, List.set_cons_zero, List.set_cons_succ])
        (refine wpAnyH_take (i := 12) (oi := ?_) (v := ?_) ?_ (by kernel_rfl) (by kernel_rfl) (by kernel_rfl) ?_ (Or.inl ⟨?_, ?_⟩) (by assumption) ?_; rotate_left 2; (· (simp only [List.getElem?_toArray, List.getElem?_cons_succ, List.getElem?_cons_zero]; first | done | rfl)); (· exact (fun _ _ _ h => h)); (· rfl); (· (intro w hSw; (try dsimp only at hSw); go_simp; (try with_reducible rfl))))
        (try simp only [Act.put, List.setIfInBounds_toArray, List.set_cons_zero, List.set_cons_succ])
        (refine wpAnyH_take (i := 13) (oi := ?_) (v := ?_) ?_ (by kernel_rfl) (by kernel_rfl) (by kernel_rfl) ?_ (Or.inl ⟨?_, ?_⟩) (by assumption) ?_; rotate_left 2; (· (simp only [List.getElem?_toArray, List.getElem?_cons_succ, List.getElem?_cons_zero]; first | done | rfl)); (· exact (fun _ _ _ h => h)); (· rfl); (· (intro w hSw; (try dsimp only at hSw); go_simp; (try with_reducible rfl))))
        (try simp only [Act.put, List.setIfInBounds_toArray, List.set_cons_zero, List.set_cons_succ])
        (refine wpAnyH_take (i := 14) (oi := ?_) (v := ?_) ?_ (by kernel_rfl) (by kernel_rfl) (by kernel_rfl) ?_ (Or.inl ⟨?_, ?_⟩) (by assumption) ?_; rotate_left 2; (· (simp only [List.getElem?_toArray, List.getElem?_cons_succ, List.getElem?_cons_zero]; first | done | rfl)); (· exact (fun _ _ _ h => h)); (· rfl); (· (intro w hSw; (try dsimp only at hSw); go_simp; (try with_reducible rfl))))
        (try simp only [Act.put, List.setIfInBounds_toArray, List.set_cons_zero, List.set_cons_succ])
        (refine wpAnyH_take (i := 15) (oi := ?_) (v := ?_) ?_ (by kernel_rfl) (by kernel_rfl) (by kernel_rfl) ?_ (Or.inl ⟨?_, ?_⟩) (by assumption) ?_; rotate_left 2; (· (simp only [List.getElem?_toArray, List.getElem?_cons_succ, List.getElem?_cons_zero]; first | done | rfl)); (· exact (fun _ _ _ h => h)); (· rfl); (· (intro w hSw; (try dsimp only at hSw); go_simp; (try with_reducible rfl))))
        (try simp only [Act.put, List.setIfInBounds_toArray, List.set_cons_zero, List.set_cons_succ])
        (refine wpAnyH_take (i := 16) (oi := ?_) (v := ?_) ?_ (by kernel_rfl) (by kernel_rfl) (by kernel_rfl) ?_ (Or.inl ⟨?_, ?_⟩) (by assumption) ?_; rotate_left 2; (· (simp only [List.getElem?_toArray, List.getElem?_cons_succ, List.getElem?_cons_zero]; first | done | rfl)); (· exact (fun _ _ _ h => h)); (· rfl); (· (intro w hSw; (try dsimp only at hSw); go_simp; (try with_reducible rfl))))
        (try simp only [Act.put, List.setIfInBounds_toArray, List.set_cons_zero, List.set_cons_succ])
        (refine wpAnyH_take (i := 17) (oi := ?_) (v := ?_) ?_ (by kernel_rfl) (by kernel_rfl) (by kernel_rfl) ?_ (Or.inl ⟨?_, ?_⟩) (by assumption) ?_; rotate_left 2; (· (simp only [List.getElem?_toArray, List.getElem?_cons_succ, List.getElem?_cons_zero]; first | done | rfl)); (· exact (fun _ _ _ h => h)); (· rfl); (· (intro w hSw; (try dsimp only at hSw); go_simp; (try with_reducible rfl))))
        (try simp only [Act.put, List.setIfInBounds_toArray, List.set_cons_zero, List.set_cons_succ])
        (refine wpAnyH_take (i := 18) (oi := ?_) (v := ?_) ?_ (by kernel_rfl) (by kernel_rfl) (by kernel_rfl) ?_ (Or.inl ⟨?_, ?_⟩) (by assumption) ?_; rotate_left 2; (· (simp only [List.getElem?_toArray, List.getElem?_cons_succ, List.getElem?_cons_zero]; first | done | rfl)); (· exact (fun _ _ _ h => h)); (· rfl); (· (intro w hSw; (try dsimp only at hSw); go_simp; (try with_reducible rfl))))
        (try simp only [Act.put, List.setIfInBounds_toArray, List.set_cons_zero, List.set_cons_succ])
        (refine wpAnyH_take (i := 19) (oi := ?_) (v := ?_) ?_ (by kernel_rfl) (by kernel_rfl) (by kernel_rfl) ?_ (Or.inl ⟨?_, ?_⟩) (by assumption) ?_; rotate_left 2; (· (simp only [List.getElem?_toArray, List.getElem?_cons_succ, List.getElem?_cons_zero]; first | done | rfl)); (· exact (fun _ _ _ h => h)); (· rfl); (· (intro w hSw; (try dsimp only at hSw); go_simp; (try with_reducible rfl))))
        (try simp only [Act.put, List.setIfInBounds_toArray, List.set_cons_zero, List.set_cons_succ])
        (refine wpAnyH_take (i := 20) (oi := ?_) (v := ?_) ?_ (by kernel_rfl) (by kernel_rfl) (by kernel_rfl) ?_ (Or.inl ⟨?_, ?_⟩) (by assumption) ?_; rotate_left 2; (· (simp only [List.getElem?_toArray, List.getElem?_cons_succ, List.getElem?_cons_zero]; first | done | rfl)); (· exact (fun _ _ _ h => h)); (· rfl); (· (intro w hSw; (try dsimp only at hSw); go_simp; (try with_reducible rfl))))
        (try simp only [Act.put, List.setIfInBounds_toArray, List.set_cons_zero, List.set_cons_succ])
        refine wpAnyH_ready (rs := [21]) (by kernel_rfl) (by simp) ?_
        refine AllReadyH.cons (o := ?_) ?_ (fun K hK => ?_) AllReadyH.nil
        rotate_left 1
        · (simp only [List.getElem?_toArray, List.getElem?_cons_succ, List.getElem?_cons_zero]; first | done | rfl)
        go_simp
        first | (refine hK.out _ _ ?_ (fun hq2 => ?_)) | ((go_at_call 42; (first | (with_reducible refine (HI1.out _).mono ?_) | (with_reducible refine (HI2.out _).mono ?_)); rintro e w7 ⟨rfl, hb7⟩); refine hK.out _ _ ?_ (fun hq2 => ?_)) | ((go_at_call 42; (first | (with_reducible refine (HI1.out _).mono ?_) | (with_reducible refine (HI2.out _).mono ?_)); rintro e w7 ⟨rfl, hb7⟩); go_wp2_with fail; refine hK.out _ _ ?_ (fun hq2 => ?_)) | fail
        · ((try dsimp only); (first | exact HST.out | assumption | exact nd_below (by assumption) (by assumption)))
        clear hK K
        (try simp only [Act.put, List.setIfInBounds_toArray, List.set_cons_zero, List.set_cons_succ])
        clear hq1
        (refine wpAnyH_take (i := 22) (oi := ?_) (v := ?_) ?_ (by kernel_rfl) (by kernel_rfl) (by kernel_rfl) ?_ (Or.inl ⟨?_, ?_⟩) (by assumption) ?_; rotate_left 2; (· (simp only [List.getElem?_toArray, List.getElem?_cons_succ, List.getElem?_cons_zero]; first | done | rfl)); (· exact (fun _ _ _ h => h)); (· rfl); (· (intro w hSw; (try dsimp only at hSw); go_simp; (try with_reducible rfl))))
        (try simp only [Act.put, List.setIfInBounds_toArray, List.set_cons_zero, List.set_cons_succ])
        (refine wpAnyH_take (i := 23) (oi := ?_) (v := ?_) ?_ (by kernel_rfl) (by kernel_rfl) (by kernel_rfl) ?_ (Or.inl ⟨?_, ?_⟩) (by assumption) ?_; rotate_left 2; (· (simp only [List.getElem?_toArray, List.getElem?_cons_succ, List.getElem?_cons_zero]; first | done | rfl)); (· exact (fun _ _ _ h => h)); (· rfl); (· (intro w hSw; (try dsimp only at hSw); go_simp; (try with_reducible rfl))))
        (try simp only [Act.put, List.setIfInBounds_toArray, List.set_cons_zero, List.set_cons_succ])
        (refine wpAnyH_take (i := 24) (oi := ?_) (v := ?_) ?_ (by kernel_rfl) (by kernel_rfl) (by kernel_rfl) ?_ (Or.inl ⟨?_, ?_⟩) (by assumption) ?_; rotate_left 2; (· (simp only [List.getElem?_toArray, List.getElem?_cons_succ, List.getElem?_cons_zero]; first | done | rfl)); (· exact (fun _ _ _ h => h)); (· rfl); (· (intro w hSw; (try dsimp only at hSw); go_simp; (try with_reducible rfl))))
        (try simp only [Act.put, List.setIfInBounds_toArray, List.set_cons_zero, List.set_cons_succ])
        refine wpAnyH_done (by kernel_rfl) ?_ _
        go_wp2_with fail
        exact ⟨⟨k + 1, by omega, by go_num, Lib.hid (by rw [needN, HP.out, HRO.out]; rfl), btrans HBR.out (nd_own (by assumption))⟩, by simp [intOf]; go_num⟩
    · obtain rfl : k = L.length := by omega
      have q1 : ¬ ((L.length : Nat) : Int) < (L.length : Int) := by omega
      go_wp2_with fail
      go_ret
      exact ⟨ret_bool HP.out.symm, HBR.out⟩
end Go.Proofs.YtfkedobofamkiaaGreatDoor.Val
end
