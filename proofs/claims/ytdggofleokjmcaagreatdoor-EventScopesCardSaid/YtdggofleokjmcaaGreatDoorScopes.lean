/- THE WALK OF the law EventScopes. -/
import Derived.Test.YtdggofleokjmcaaGreatDoorScopesFn
import Derived.Test.YtdggofleokjmcaaGreatDoorNews
import Derived.Laws.BitsLemmas
namespace Go.Proofs.YtdggofleokjmcaaGreatDoor.Val
open Go.RowKit Flt
attribute [local go_sem] run_store_flt
theorem and16 (n : Int) : ∃ m : Nat, m ≤ 65535 ∧ bits .and .i64 n 65535 = (m : Int) := by
  have h15 : (BitVec.ofInt 64 65535).toNat = 2 ^ 16 - 1 := by decide
  have key : (BitVec.ofInt 64 n &&& BitVec.ofInt 64 65535).toNat = (n % ((2 ^ 64 : Nat) : Int)).toNat % 2 ^ 16 := by
    rw [BitVec.toNat_and, BitVec.toNat_ofInt, h15, Nat.and_two_pow_sub_one_eq_mod]
  refine ⟨(n % ((2 ^ 64 : Nat) : Int)).toNat % 2 ^ 16, by omega, ?_⟩
  show IntKind.i64.wrap ((BitVec.ofInt 64 n &&& BitVec.ofInt 64 65535).toNat : Nat) = _
  rw [key, IntKind.wrap_i64]
  omega
theorem info_bool3 : (Tryz.prog.info? 4).map (fun i => (i.zero, i.size, i.bytes)) = some (some (.bool false), 1, 1) := by kernel_rfl
theorem zero_bool (w : World) : (zeroValue 4).run Tryz.prog w = .ok (.bool false) w := by
  obtain ⟨i0, hi, hz0, hz1, hz2⟩ := info_parts info_bool3
  simp [zeroValue, typeInfo, hi, hz0, Sem.run_bind, Result.andThen, go_sem]
theorem s3_below {s t : List UInt8} {w w1 w2 : World} (hb : Below w1.heap.size w1 w2) (h : (fun w' => w'.cell? ⟨w.heap.size, 0, none⟩ = some (.string ⟨s.toArray⟩) ∧ w'.cell? ⟨w.heap.size, 1, none⟩ = some (.string ⟨t.toArray⟩) ∧ Below w.heap.size w w' ∧ w.heap.size < w'.heap.size) w1) : (fun w' => w'.cell? ⟨w.heap.size, 0, none⟩ = some (.string ⟨s.toArray⟩) ∧ w'.cell? ⟨w.heap.size, 1, none⟩ = some (.string ⟨t.toArray⟩) ∧ Below w.heap.size w w' ∧ w.heap.size < w'.heap.size) w2 := by
  obtain ⟨h0, h1, hB, hl⟩ := h
  have c : ∀ o, w2.cell? ⟨w.heap.size, o, none⟩ = w1.cell? ⟨w.heap.size, o, none⟩ := fun o => hb.cell (p := ⟨w.heap.size, o, none⟩) hl
  exact ⟨by rw [c]; exact h0, by rw [c]; exact h1, btrans hB hb, Nat.lt_of_lt_of_le hl hb.size⟩
theorem s3_own {s t : List UInt8} {w w1 : World} (h : (fun w' => w'.cell? ⟨w.heap.size, 0, none⟩ = some (.string ⟨s.toArray⟩) ∧ w'.cell? ⟨w.heap.size, 1, none⟩ = some (.string ⟨t.toArray⟩) ∧ Below w.heap.size w w' ∧ w.heap.size < w'.heap.size) w1) : Below w.heap.size w w1 := h.2.2.1
theorem attrs_lie {w : World} {a : Addr} {l : List A} (h : Attrs w (some a) l) (i : Nat) : ∀ j u, (flatA (l.drop i))[j]? = some u → w.cell? ((a.add (i * 6)).add j) = some u := by
  intro j u hj
  have hjl : j < (l.drop i).length * 6 := by have := (List.getElem?_eq_some_iff.1 hj).1; rwa [flatA_len] at this
  rw [List.length_drop] at hjl
  obtain ⟨q, p, hp, rfl⟩ : ∃ q p, p < 6 ∧ j = q * 6 + p := ⟨j / 6, j % 6, Nat.mod_lt _ (by decide), by omega⟩
  have hq : i + q < l.length := by omega
  have hq2 : q < (l.drop i).length := by rw [List.length_drop]; omega
  rw [flatA_at _ q p hq2 hp] at hj
  have he : (l.drop i)[q] = l[i + q] := List.getElem_drop ..
  rw [he] at hj
  obtain ⟨a', ea, h0, h1, h2, h3, h4, h5⟩ := h (i + q) hq
  cases ea
  have hadd : (a.add (i * 6)).add (q * 6 + p) = (a.add ((i + q) * 6)).add p := by rw [Deep.add_add, Deep.add_add]; congr 1; omega
  rw [hadd]
  match p, hp, hj with
  | 0, _, hj => simp [cells6] at hj; subst hj; exact h0
  | 1, _, hj => simp [cells6] at hj; subst hj; exact h1
  | 2, _, hj => simp [cells6] at hj; subst hj; exact h2
  | 3, _, hj => simp [cells6] at hj; subst hj; exact h3
  | 4, _, hj => simp [cells6] at hj; subst hj; exact h4
  | 5, _, hj => simp [cells6] at hj; subst hj; exact h5
theorem attrs_take {w : World} {a : Addr} {l : List A} (h : Attrs w (some a) l) (r : Nat) : ∀ j u, (flatA (l.take r))[j]? = some u → w.cell? (a.add j) = some u := by
  intro j u hj
  have h1 := attrs_lie h 0 j u (by
    rw [List.drop_zero]
    conv => lhs; rw [← List.take_append_drop r l]
    rw [flatA_apps, List.getElem?_append_left (List.getElem?_eq_some_iff.1 hj).1]
    exact hj)
  rw [Deep.add_add] at h1
  simpa using h1
theorem s17_attrs {a : Addr} {l : List A} {w w1 : World} (h : (fun w' => Attrs w' (some a) l ∧ Below w.heap.size w w') w1) : Attrs w1 (some a) l := h.1
theorem s17_own {a : Addr} {l : List A} {w w1 : World} (h : (fun w' => Attrs w' (some a) l ∧ Below w.heap.size w w') w1) : Below w.heap.size w w1 := h.2
theorem s17_below {a : Addr} {l : List A} {w w1 w2 : World} (hb : Below w1.heap.size w1 w2) (h : (fun w' => Attrs w' (some a) l ∧ Below w.heap.size w w') w1) : (fun w' => Attrs w' (some a) l ∧ Below w.heap.size w w') w2 := ⟨h.1.below hb, btrans h.2 hb⟩
set_option maxRecDepth 20000 in
set_option maxHeartbeats 4000000 in
theorem scopes_law (a0 : Option Addr) (cap : Nat) (l : List A) (s t : List UInt8) (turn : Int) (w : World) (hl : Attrs w a0 l) (hok : ∀ x ∈ l, Open.AOk x) (hcl : l.length ≤ cap) (hcm : cap ≤ maxLen) (hn0 : a0 = none → l = [] ∧ cap = 0) (hs : s.length ≤ 140737488351232) (ht : t.length ≤ 140737488351232) :
    Calls Tryz.prog 5 #[.slice a0 l.length cap, .agg #[.string ⟨s.toArray⟩, .string ⟨t.toArray⟩], .int .i64 turn] w fun e w' => e = .returned (.bool true) ∧ Below w.heap.size w w' := by
  have hli (w : World) (h : Attrs w a0 l) := light03_any a0 cap l w h hok (Nat.le_trans hcl hcm)
  have hnum := newB_num hok
  have HL := Lib.hid hl; have HLI := Lib.hid hli; have HNUM := Lib.hid hnum; have HOK := Lib.hid hok
  clear hl hli hnum hok
  have hmm := @run_makeMap Tryz.prog
  go_enter Tryz.func5, Tryz.ntmps5
  go_wp2_with (go_at_call 15; refine (fit03_any _).mono ?_; rintro e w1 ⟨rfl, hb1⟩)
  have hs3 : (fun w' => w'.cell? ⟨w.heap.size, 0, none⟩ = some (.string ⟨s.toArray⟩) ∧ w'.cell? ⟨w.heap.size, 1, none⟩ = some (.string ⟨t.toArray⟩) ∧ Below w.heap.size w w' ∧ w.heap.size < w'.heap.size) w1 := by
    obtain ⟨hc1, hf1⟩ := bcell hb1
    exact ⟨(hc1 w.heap.size 0 (by simp)).trans (World.cell?_alloc_at _ _ _ _ rfl), (hc1 w.heap.size 1 (by simp)).trans (World.cell?_alloc_at _ _ _ _ rfl), btrans (balloc _ _) hb1, size1 hb1⟩
  have HS3 := Lib.hid hs3
  clear hs3 hb1
  go_cut [7, 8] (fun va vb wx => Hid ((fun w' => w'.cell? ⟨w.heap.size, 0, none⟩ = some (.string ⟨s.toArray⟩) ∧ w'.cell? ⟨w.heap.size, 1, none⟩ = some (.string ⟨t.toArray⟩) ∧ Below w.heap.size w w' ∧ w.heap.size < w'.heap.size) wx) ∧ va = .string ⟨s.toArray⟩ ∧ vb = .string ⟨t.toArray⟩)
  case first => as_aux_lemma =>
    refine wp_region_held_drew (S := (fun w' => w'.cell? ⟨w.heap.size, 0, none⟩ = some (.string ⟨s.toArray⟩) ∧ w'.cell? ⟨w.heap.size, 1, none⟩ = some (.string ⟨t.toArray⟩) ∧ Below w.heap.size w w' ∧ w.heap.size < w'.heap.size)) (by kernel_rfl) ?_ (fun hq0 => ?_)
    · ((try dsimp only); (first | exact HS3.out | exact s3_below (bdrewN (Below.refl _ _) 1) HS3.out | assumption | exact s3_below (by assumption) (by assumption)))
    first | (refine wpAnyH_take (i := 0) (oi := ?_) (v := ?_) ?_ (by kernel_rfl) (by kernel_rfl) (by kernel_rfl) ?_ (Or.inl ⟨?_, ?_⟩) (by assumption) ?_; rotate_left 2; (· (simp only [List.getElem?_toArray, List.getElem?_cons_zero]; first | done | rfl)); (· exact (fun _ _ _ h => h)); (· rfl); (· (intro w hSw; (try dsimp only at hSw); go_simp; (try with_reducible rfl)))) | (refine wpAnyH_take (i := 0) (oi := ?_) (v := ?_) ?_ (by kernel_rfl) (by kernel_rfl) (by kernel_rfl) ?_ (Or.inr ⟨?_, ?_⟩) (by assumption) ?_; rotate_left 2; (· (simp only [List.getElem?_toArray, List.getElem?_cons_zero]; first | done | rfl)); (· exact (fun _ _ _ h => h)); (· rfl); (· rfl)) | fail
    (try simp only [Act.put, List.setIfInBounds_toArray, List.set_cons_zero, List.set_cons_succ])
    first | (refine wpAnyH_take (i := 1) (oi := ?_) (v := ?_) ?_ (by kernel_rfl) (by kernel_rfl) (by kernel_rfl) ?_ (Or.inl ⟨?_, ?_⟩) (by assumption) ?_; rotate_left 2; (· (simp only [List.getElem?_toArray, List.getElem?_cons_succ, List.getElem?_cons_zero]; first | done | rfl)); (· exact (fun _ _ _ h => h)); (· rfl); (· (intro w hSw; (try dsimp only at hSw); go_simp; (try with_reducible rfl)))) | (refine wpAnyH_take (i := 1) (oi := ?_) (v := ?_) ?_ (by kernel_rfl) (by kernel_rfl) (by kernel_rfl) ?_ (Or.inr ⟨?_, ?_⟩) (by assumption) ?_; rotate_left 2; (· (simp only [List.getElem?_toArray, List.getElem?_cons_succ, List.getElem?_cons_zero]; first | done | rfl)); (· exact (fun _ _ _ h => h)); (· rfl); (· rfl)) | fail
    (try simp only [Act.put, List.setIfInBounds_toArray, List.set_cons_zero, List.set_cons_succ])
    first | (refine wpAnyH_take (i := 2) (oi := ?_) (v := ?_) ?_ (by kernel_rfl) (by kernel_rfl) (by kernel_rfl) ?_ (Or.inl ⟨?_, ?_⟩) (by assumption) ?_; rotate_left 2; (· (simp only [List.getElem?_toArray, List.getElem?_cons_succ, List.getElem?_cons_zero]; first | done | rfl)); (· exact (fun _ _ _ h => h)); (· rfl); (· (intro w hSw; (try dsimp only at hSw); go_simp; (try with_reducible rfl)))) | (refine wpAnyH_take (i := 2) (oi := ?_) (v := ?_) ?_ (by kernel_rfl) (by kernel_rfl) (by kernel_rfl) ?_ (Or.inr ⟨?_, ?_⟩) (by assumption) ?_; rotate_left 2; (· (simp only [List.getElem?_toArray, List.getElem?_cons_succ, List.getElem?_cons_zero]; first | done | rfl)); (· exact (fun _ _ _ h => h)); (· rfl); (· rfl)) | fail
    (try simp only [Act.put, List.setIfInBounds_toArray, List.set_cons_zero, List.set_cons_succ])
    first | (refine wpAnyH_take (i := 3) (oi := ?_) (v := ?_) ?_ (by kernel_rfl) (by kernel_rfl) (by kernel_rfl) ?_ (Or.inl ⟨?_, ?_⟩) (by assumption) ?_; rotate_left 2; (· (simp only [List.getElem?_toArray, List.getElem?_cons_succ, List.getElem?_cons_zero]; first | done | rfl)); (· exact (fun _ _ _ h => h)); (· rfl); (· (intro w hSw; (try dsimp only at hSw); go_simp; (try with_reducible rfl)))) | (refine wpAnyH_take (i := 3) (oi := ?_) (v := ?_) ?_ (by kernel_rfl) (by kernel_rfl) (by kernel_rfl) ?_ (Or.inr ⟨?_, ?_⟩) (by assumption) ?_; rotate_left 2; (· (simp only [List.getElem?_toArray, List.getElem?_cons_succ, List.getElem?_cons_zero]; first | done | rfl)); (· exact (fun _ _ _ h => h)); (· rfl); (· rfl)) | fail
    (try simp only [Act.put, List.setIfInBounds_toArray, List.set_cons_zero, List.set_cons_succ])
    first | (refine wpAnyH_take (i := 4) (oi := ?_) (v := ?_) ?_ (by kernel_rfl) (by kernel_rfl) (by kernel_rfl) ?_ (Or.inl ⟨?_, ?_⟩) (by assumption) ?_; rotate_left 2; (· (simp only [List.getElem?_toArray, List.getElem?_cons_succ, List.getElem?_cons_zero]; first | done | rfl)); (· exact (fun _ _ _ h => h)); (· rfl); (· (intro w hSw; (try dsimp only at hSw); go_simp; (try with_reducible rfl)))) | (refine wpAnyH_take (i := 4) (oi := ?_) (v := ?_) ?_ (by kernel_rfl) (by kernel_rfl) (by kernel_rfl) ?_ (Or.inr ⟨?_, ?_⟩) (by assumption) ?_; rotate_left 2; (· (simp only [List.getElem?_toArray, List.getElem?_cons_succ, List.getElem?_cons_zero]; first | done | rfl)); (· exact (fun _ _ _ h => h)); (· rfl); (· rfl)) | fail
    (try simp only [Act.put, List.setIfInBounds_toArray, List.set_cons_zero, List.set_cons_succ])
    first | (refine wpAnyH_take (i := 5) (oi := ?_) (v := ?_) ?_ (by kernel_rfl) (by kernel_rfl) (by kernel_rfl) ?_ (Or.inl ⟨?_, ?_⟩) (by assumption) ?_; rotate_left 2; (· (simp only [List.getElem?_toArray, List.getElem?_cons_succ, List.getElem?_cons_zero]; first | done | rfl)); (· exact (fun _ _ _ h => h)); (· rfl); (· (intro w hSw; (try dsimp only at hSw); go_simp; (try with_reducible rfl)))) | (refine wpAnyH_take (i := 5) (oi := ?_) (v := ?_) ?_ (by kernel_rfl) (by kernel_rfl) (by kernel_rfl) ?_ (Or.inr ⟨?_, ?_⟩) (by assumption) ?_; rotate_left 2; (· (simp only [List.getElem?_toArray, List.getElem?_cons_succ, List.getElem?_cons_zero]; first | done | rfl)); (· exact (fun _ _ _ h => h)); (· rfl); (· rfl)) | fail
    (try simp only [Act.put, List.setIfInBounds_toArray, List.set_cons_zero, List.set_cons_succ])
    refine wpAnyH_done (by kernel_rfl) ?_ _
    go_wp2_with fail
    go_meet
    exact ⟨Lib.hid (by assumption), rfl, rfl⟩
  case rest =>
  obtain ⟨HS4, rfl, rfl⟩ := hcut
  have hbq := s3_own HS4.out
  have HBQ := Lib.hid hbq
  clear hbq HS3 HS4
  cases hlb : lightB l
  · rw [hlb] at HLI
    clear hlb
    go_wp2_with (go_at_call 16; refine (HLI.out _ (HL.out.below HBQ.out)).mono ?_; rintro e w2 ⟨rfl, hb2⟩)
    go_ret
    exact ⟨rfl, btrans HBQ.out hb2⟩
  rw [hlb] at HLI
  have hl30 : l.length ≤ 30 := by
    unfold lightB at hlb
    simp at hlb
    exact hlb.2
  clear hlb
  by_cases h200 : s.length + t.length ≤ 200
  rotate_left
  · have d1 : (200 : Int) < (s.length : Int) + (t.length : Int) := by omega
    have d2 : IntKind.i64.wrap ((s.length : Int) + (t.length : Int)) = (s.length : Int) + (t.length : Int) := by rw [IntKind.wrap_i64]; omega
    go_wp2_with (go_at_call 16; refine (HLI.out _ (HL.out.below HBQ.out)).mono ?_; rintro e w2 ⟨rfl, hb2⟩)
    go_ret
    exact ⟨rfl, btrans HBQ.out hb2⟩
  have d1 : ¬ (200 : Int) < (s.length : Int) + (t.length : Int) := by omega
  go_wp2_with (go_at_call 16; refine (HLI.out _ (HL.out.below HBQ.out)).mono ?_; rintro e w2 ⟨rfl, hb2⟩)
  have hmr : MapR (w2.alloc (.map #[] 0)) w2.heap.size 0 (seenOf (l.take 0)) 0 := mapR_made w2
  have hbw := btrans HBQ.out hb2
  have hat := HL.out.below hbw
  have HMR := Lib.hid hmr; have HBW := Lib.hid hbw; have HAT := Lib.hid hat
  clear hmr hbw hat HBQ hb2 HLI hmm
  go_loopg [34] (l.length) (fun g vi wr => ∃ (k c : Nat), g + k = l.length ∧ vi = .int .i64 k ∧ Hid (MapR wr w2.heap.size k (seenOf (l.take k)) c) ∧ Hid (Dist (l.take k)) ∧ Below w2.heap.size w2 wr)
  case atStart => exact ⟨0, 0, by omega, rfl, HMR, Lib.hid List.Pairwise.nil, balloc _ _⟩
  case round =>
    obtain ⟨k, c, hgk, rfl, HK, HD, hwr⟩ := hrel
    by_cases hlt : k < l.length
    · as_aux_lemma =>
      have i1 : (k : Int) < (l.length : Int) := by omega
      have i0 : (0 : Int) ≤ (k : Int) := by omega
      obtain ⟨a, rfl, v0, v1, v2, v3, v4, v5⟩ := (HAT.out.below hwr) k hlt
      have hx := HOK.out _ (List.getElem_mem hlt)
      have hnm : l[k].name.length ≤ maxLen := by unfold maxLen; have := hx.1; omega
      have hlook := (HK.out.alloc (.cells #[.string ⟨l[k].name.toArray⟩, .int .i64 l[k].val.kind, .int .i64 l[k].val.int, .float .f64 l[k].val.num, .string ⟨l[k].val.text.toArray⟩, .bool l[k].val.yes] 32)).look Tryz.underlying39 (zero_bool _) l[k].name hnm
      cases hr : rawV (l.take k) l[k].name with
      | some v =>
        rw [show seenOf (l.take k) l[k].name = some (.bool true) by unfold seenOf; rw [hr]; rfl] at hlook
        simp only [Option.getD_some] at hlook
        have hbz := btrans (btrans HBW.out hwr) (balloc wr (.cells #[.string ⟨l[k].name.toArray⟩, .int .i64 l[k].val.kind, .int .i64 l[k].val.int, .float .f64 l[k].val.num, .string ⟨l[k].val.text.toArray⟩, .bool l[k].val.yes] 32))
        have HBZ := Lib.hid hbz
        clear hbz hr hx hnm HK HD HMR
        go_wp2_with fail
        go_ret
        exact ⟨rfl, HBZ.out⟩
      | none =>
        rw [show seenOf (l.take k) l[k].name = none by unfold seenOf; rw [hr]; rfl] at hlook
        simp only [Option.getD_none] at hlook
        obtain ⟨w'', hrun, hmr2, hg⟩ := (HK.out.alloc (.cells #[.string ⟨l[k].name.toArray⟩, .int .i64 l[k].val.kind, .int .i64 l[k].val.int, .float .f64 l[k].val.num, .string ⟨l[k].val.text.toArray⟩, .bool l[k].val.yes] 32)).update Tryz.underlying39 (by unfold maxLen; omega) l[k].name hnm (.bool true)
        rw [seenOf_step l k hlt] at hmr2
        have hb3 : Below w2.heap.size w2 w'' := Below.grown (hwr.trans ((balloc wr _).mono hwr.size)) hg (by have := hwr.size; simp; omega) (fun q hq => by cases hq; exact Nat.le_refl _)
        have hd := dist_step hlt HD.out hr
        have HM2 := Lib.hid hmr2; have HB2 := Lib.hid hb3; have HD2 := Lib.hid hd
        clear hmr2 hb3 hg hx HMR HK hd hr hnm HD
        go_wp2_with fail
        go_roundg (l.length - (k + 1))
        case measure => omega
        case rel => exact ⟨k + 1, _, by omega, by go_num, HM2, HD2, HB2.out⟩
    · obtain rfl : k = l.length := by omega
      have hd := HD.out
      rw [List.take_length] at hd
      have hbw := btrans HBW.out hwr
      have hat := HAT.out.below hwr
      have hrot := rot_new hd
      have HROT := Lib.hid hrot; have HBW2 := Lib.hid hbw; have HAT2 := Lib.hid hat
      clear hd hbw hat hrot HMR HBW HAT HK HD hwr HOK
      obtain ⟨m, hm, hbits⟩ := and16 turn
      by_cases h0 : l.length = 0
      · have hl0 : l = [] := List.eq_nil_of_length_eq_zero h0
        have HL0 := Lib.hid hl0
        clear hl0
        simp only [h0]
        clear hbits
        rcases a0 with _ | a
        · obtain ⟨_, rfl⟩ := hn0 rfl
          go_upto_region 17 with fail
          go_cut [13] (fun v wx => ∃ (m0 : Option Addr) (mc : Nat) (l' : List A), v = .slice m0 l'.length mc ∧ Hid (newB l' = newB l) ∧ Hid (Attrs wx m0 l') ∧ l'.length ≤ 100 ∧ Hid (Attrs wx none l) ∧ Hid (Below w.heap.size w wx))
          case first => as_aux_lemma =>
            refine wp_region_held_drew (S := (fun w' => Below w.heap.size w w')) (by kernel_rfl) ?_ (fun hq0 => ?_)
            · ((try dsimp only); (first | exact HBW2.out | exact bdrewN HBW2.out 1 | assumption | exact bdrewN (by assumption) 1))
            first | (refine wpAnyH_take (i := 0) (oi := ?_) (v := ?_) ?_ (by kernel_rfl) (by kernel_rfl) (by kernel_rfl) ?_ (Or.inl ⟨?_, ?_⟩) (by assumption) ?_; rotate_left 2; (· (simp only [List.getElem?_toArray, List.getElem?_cons_zero]; first | done | rfl)); (· exact (fun _ _ _ h => h)); (· rfl); (· (intro w hSw; (try dsimp only at hSw); go_simp; (try with_reducible rfl)))) | (refine wpAnyH_take (i := 0) (oi := ?_) (v := ?_) ?_ (by kernel_rfl) (by kernel_rfl) (by kernel_rfl) ?_ (Or.inr ⟨?_, ?_⟩) (by assumption) ?_; rotate_left 2; (· (simp only [List.getElem?_toArray, List.getElem?_cons_zero]; first | done | rfl)); (· exact (fun _ _ _ h => h)); (· rfl); (· rfl)) | fail
            (try simp only [Act.put, List.setIfInBounds_toArray, List.set_cons_zero, List.set_cons_succ])
            first | (refine wpAnyH_take (i := 1) (oi := ?_) (v := ?_) ?_ (by kernel_rfl) (by kernel_rfl) (by kernel_rfl) ?_ (Or.inl ⟨?_, ?_⟩) (by assumption) ?_; rotate_left 2; (· (simp only [List.getElem?_toArray, List.getElem?_cons_succ, List.getElem?_cons_zero]; first | done | rfl)); (· exact (fun _ _ _ h => h)); (· rfl); (· (intro w hSw; (try dsimp only at hSw); go_simp; (try with_reducible rfl)))) | (refine wpAnyH_take (i := 1) (oi := ?_) (v := ?_) ?_ (by kernel_rfl) (by kernel_rfl) (by kernel_rfl) ?_ (Or.inr ⟨?_, ?_⟩) (by assumption) ?_; rotate_left 2; (· (simp only [List.getElem?_toArray, List.getElem?_cons_succ, List.getElem?_cons_zero]; first | done | rfl)); (· exact (fun _ _ _ h => h)); (· rfl); (· rfl)) | fail
            (try simp only [Act.put, List.setIfInBounds_toArray, List.set_cons_zero, List.set_cons_succ])
            first | (refine wpAnyH_take (i := 2) (oi := ?_) (v := ?_) ?_ (by kernel_rfl) (by kernel_rfl) (by kernel_rfl) ?_ (Or.inl ⟨?_, ?_⟩) (by assumption) ?_; rotate_left 2; (· (simp only [List.getElem?_toArray, List.getElem?_cons_succ, List.getElem?_cons_zero]; first | done | rfl)); (· exact (fun _ _ _ h => h)); (· rfl); (· (intro w hSw; (try dsimp only at hSw); go_simp; (try with_reducible rfl)))) | (refine wpAnyH_take (i := 2) (oi := ?_) (v := ?_) ?_ (by kernel_rfl) (by kernel_rfl) (by kernel_rfl) ?_ (Or.inr ⟨?_, ?_⟩) (by assumption) ?_; rotate_left 2; (· (simp only [List.getElem?_toArray, List.getElem?_cons_succ, List.getElem?_cons_zero]; first | done | rfl)); (· exact (fun _ _ _ h => h)); (· rfl); (· rfl)) | fail
            (try simp only [Act.put, List.setIfInBounds_toArray, List.set_cons_zero, List.set_cons_succ])
            first | (refine wpAnyH_take (i := 4) (oi := ?_) (v := ?_) ?_ (by kernel_rfl) (by kernel_rfl) (by kernel_rfl) ?_ (Or.inl ⟨?_, ?_⟩) (by assumption) ?_; rotate_left 2; (· (simp only [List.getElem?_toArray, List.getElem?_cons_succ, List.getElem?_cons_zero]; first | done | rfl)); (· exact (fun _ _ _ h => h)); (· rfl); (· (intro w hSw; (try dsimp only at hSw); go_simp; (try with_reducible rfl)))) | (refine wpAnyH_take (i := 4) (oi := ?_) (v := ?_) ?_ (by kernel_rfl) (by kernel_rfl) (by kernel_rfl) ?_ (Or.inr ⟨?_, ?_⟩) (by assumption) ?_; rotate_left 2; (· (simp only [List.getElem?_toArray, List.getElem?_cons_succ, List.getElem?_cons_zero]; first | done | rfl)); (· exact (fun _ _ _ h => h)); (· rfl); (· rfl)) | fail
            (try simp only [Act.put, List.setIfInBounds_toArray, List.set_cons_zero, List.set_cons_succ])
            first | (refine wpAnyH_take (i := 5) (oi := ?_) (v := ?_) ?_ (by kernel_rfl) (by kernel_rfl) (by kernel_rfl) ?_ (Or.inl ⟨?_, ?_⟩) (by assumption) ?_; rotate_left 2; (· (simp only [List.getElem?_toArray, List.getElem?_cons_succ, List.getElem?_cons_zero]; first | done | rfl)); (· exact (fun _ _ _ h => h)); (· rfl); (· (intro w hSw; (try dsimp only at hSw); go_simp; (try with_reducible rfl)))) | (refine wpAnyH_take (i := 5) (oi := ?_) (v := ?_) ?_ (by kernel_rfl) (by kernel_rfl) (by kernel_rfl) ?_ (Or.inr ⟨?_, ?_⟩) (by assumption) ?_; rotate_left 2; (· (simp only [List.getElem?_toArray, List.getElem?_cons_succ, List.getElem?_cons_zero]; first | done | rfl)); (· exact (fun _ _ _ h => h)); (· rfl); (· rfl)) | fail
            (try simp only [Act.put, List.setIfInBounds_toArray, List.set_cons_zero, List.set_cons_succ])
            first | (refine wpAnyH_take (i := 6) (oi := ?_) (v := ?_) ?_ (by kernel_rfl) (by kernel_rfl) (by kernel_rfl) ?_ (Or.inl ⟨?_, ?_⟩) (by assumption) ?_; rotate_left 2; (· (simp only [List.getElem?_toArray, List.getElem?_cons_succ, List.getElem?_cons_zero]; first | done | rfl)); (· exact (fun _ _ _ h => h)); (· rfl); (· (intro w hSw; (try dsimp only at hSw); go_simp; (try with_reducible rfl)))) | (refine wpAnyH_take (i := 6) (oi := ?_) (v := ?_) ?_ (by kernel_rfl) (by kernel_rfl) (by kernel_rfl) ?_ (Or.inr ⟨?_, ?_⟩) (by assumption) ?_; rotate_left 2; (· (simp only [List.getElem?_toArray, List.getElem?_cons_succ, List.getElem?_cons_zero]; first | done | rfl)); (· exact (fun _ _ _ h => h)); (· rfl); (· rfl)) | fail
            (try simp only [Act.put, List.setIfInBounds_toArray, List.set_cons_zero, List.set_cons_succ])
            refine wpAnyH_ready (rs := [3]) (by kernel_rfl) (by simp) ?_
            refine AllReadyH.cons (o := ?_) ?_ (fun K hK => ?_) AllReadyH.nil
            rotate_left 1
            · (simp only [List.getElem?_toArray, List.getElem?_cons_succ, List.getElem?_cons_zero]; first | done | rfl)
            go_simp
            first | (refine hK.out _ _ ?_ (fun hq1 => ?_)) | ((fail); refine hK.out _ _ ?_ (fun hq1 => ?_)) | ((fail); go_wp2_with fail; refine hK.out _ _ ?_ (fun hq1 => ?_)) | fail
            · ((try dsimp only); (first | exact HBW2.out | exact bdrewN HBW2.out 1 | assumption | exact bdrewN (by assumption) 1))
            clear hK K
            (try simp only [Act.put, List.setIfInBounds_toArray, List.set_cons_zero, List.set_cons_succ])
            clear hq0
            refine wpAnyH_ready (rs := [7]) (by kernel_rfl) (by simp) ?_
            refine AllReadyH.cons (o := ?_) ?_ (fun K hK => ?_) AllReadyH.nil
            rotate_left 1
            · (simp only [List.getElem?_toArray, List.getElem?_cons_succ, List.getElem?_cons_zero]; first | done | rfl)
            go_simp
            first | (refine hK.out _ _ ?_ (fun hq2 => ?_)) | ((fail); refine hK.out _ _ ?_ (fun hq2 => ?_)) | ((fail); go_wp2_with fail; refine hK.out _ _ ?_ (fun hq2 => ?_)) | fail
            · ((try dsimp only); (first | exact HBW2.out | exact bdrewN HBW2.out 1 | assumption | exact bdrewN (by assumption) 1))
            clear hK K
            (try simp only [Act.put, List.setIfInBounds_toArray, List.set_cons_zero, List.set_cons_succ])
            clear hq1
            first | (refine wpAnyH_take (i := 8) (oi := ?_) (v := ?_) ?_ (by kernel_rfl) (by kernel_rfl) (by kernel_rfl) ?_ (Or.inl ⟨?_, ?_⟩) (by assumption) ?_; rotate_left 2; (· (simp only [List.getElem?_toArray, List.getElem?_cons_succ, List.getElem?_cons_zero]; first | done | rfl)); (· exact (fun _ _ _ h => h)); (· rfl); (· (intro w hSw; (try dsimp only at hSw); go_simp; (try with_reducible rfl)))) | (refine wpAnyH_take (i := 8) (oi := ?_) (v := ?_) ?_ (by kernel_rfl) (by kernel_rfl) (by kernel_rfl) ?_ (Or.inr ⟨?_, ?_⟩) (by assumption) ?_; rotate_left 2; (· (simp only [List.getElem?_toArray, List.getElem?_cons_succ, List.getElem?_cons_zero]; first | done | rfl)); (· exact (fun _ _ _ h => h)); (· rfl); (· rfl)) | fail
            (try simp only [Act.put, List.setIfInBounds_toArray, List.set_cons_zero, List.set_cons_succ])
            refine wpAnyH_done (by kernel_rfl) ?_ _
            go_wp2_with fail
            go_meet
            exact ⟨_, _, [], rfl, Lib.hid (by rw [HL0.out]), Lib.hid (fun i hi => absurd hi (Nat.not_lt_zero _)), by simp, Lib.hid (fun i hi => absurd hi (by omega)), Lib.hid (by assumption)⟩
          case rest => as_aux_lemma =>
            obtain ⟨m0, mc, l', rfl, HNL, HML, hlen, HATX, HBX⟩ := hcut
            have hn1 (w : World) (h : Attrs w none l) := new_any s none 0 l w h (by omega)
            have hn2 (w : World) (h : Attrs w m0 l') := new_any t m0 mc l' w h (by omega)
            rw [HNL.out] at hn2
            simp only [h0] at hn1
            have hes (w : World) (b1 : Option Addr) (cp1 : Nat) (b2 : Option Addr) (cp2 : Nat) (h1 : Attrs w b1 (newB l)) (h2 : Attrs w b2 (newB l)) := esame_any s t b1 b2 cp1 cp2 (newB l) (newB l) w h1 h2 (by have := newB_len l; omega) (by have := newB_len l; omega) HNUM.out HNUM.out
            rw [sameL_self, Bool.and_true] at hes
            have HN1 := Lib.hid hn1; have HN2 := Lib.hid hn2; have HES := Lib.hid hes
            clear hn1 hn2 hes HNL HNUM
            generalize newB l = nb at *
            generalize l'.length = ln at *
            go_wp2_with fail
            refine (HN1.out _ HATX.out).mono ?_
            rintro e w6 ⟨b1, cp1, rfl, hat6, _, hb6⟩
            go_wp2_with fail
            refine (HN2.out _ (HML.out.below hb6)).mono ?_
            rintro e w7 ⟨b2, cp2, rfl, hat7, _, hb7⟩
            go_wp2_with fail
            refine (HES.out _ b1 cp1 b2 cp2 (hat6.below hb7) hat7).mono ?_
            rintro e w8 ⟨rfl, hb8⟩
            cases hst : (s == t)
            · go_wp2_with fail
              go_ret
              exact ⟨rfl, btrans (btrans (btrans HBX.out hb6) hb7) hb8⟩
            · go_wp2_with fail
              go_ret
              exact ⟨rfl, btrans (btrans (btrans HBX.out hb6) hb7) hb8⟩
        · go_upto_region 17 with fail
          go_cut [13] (fun v wx => ∃ (m0 : Option Addr) (mc : Nat) (l' : List A), v = .slice m0 l'.length mc ∧ Hid (newB l' = newB l) ∧ Hid (Attrs wx m0 l') ∧ l'.length ≤ 100 ∧ Hid (Attrs wx (some a) l) ∧ Hid (Below w.heap.size w wx))
          case first => as_aux_lemma =>
            refine wp_region_held_drew (S := (fun w' => Below w.heap.size w w')) (by kernel_rfl) ?_ (fun hq0 => ?_)
            · ((try dsimp only); (first | exact HBW2.out | exact bdrewN HBW2.out 1 | assumption | exact bdrewN (by assumption) 1))
            first | (refine wpAnyH_take (i := 0) (oi := ?_) (v := ?_) ?_ (by kernel_rfl) (by kernel_rfl) (by kernel_rfl) ?_ (Or.inl ⟨?_, ?_⟩) (by assumption) ?_; rotate_left 2; (· (simp only [List.getElem?_toArray, List.getElem?_cons_zero]; first | done | rfl)); (· exact (fun _ _ _ h => h)); (· rfl); (· (intro w hSw; (try dsimp only at hSw); go_simp; (try with_reducible rfl)))) | (refine wpAnyH_take (i := 0) (oi := ?_) (v := ?_) ?_ (by kernel_rfl) (by kernel_rfl) (by kernel_rfl) ?_ (Or.inr ⟨?_, ?_⟩) (by assumption) ?_; rotate_left 2; (· (simp only [List.getElem?_toArray, List.getElem?_cons_zero]; first | done | rfl)); (· exact (fun _ _ _ h => h)); (· rfl); (· rfl)) | fail
            (try simp only [Act.put, List.setIfInBounds_toArray, List.set_cons_zero, List.set_cons_succ])
            first | (refine wpAnyH_take (i := 1) (oi := ?_) (v := ?_) ?_ (by kernel_rfl) (by kernel_rfl) (by kernel_rfl) ?_ (Or.inl ⟨?_, ?_⟩) (by assumption) ?_; rotate_left 2; (· (simp only [List.getElem?_toArray, List.getElem?_cons_succ, List.getElem?_cons_zero]; first | done | rfl)); (· exact (fun _ _ _ h => h)); (· rfl); (· (intro w hSw; (try dsimp only at hSw); go_simp; (try with_reducible rfl)))) | (refine wpAnyH_take (i := 1) (oi := ?_) (v := ?_) ?_ (by kernel_rfl) (by kernel_rfl) (by kernel_rfl) ?_ (Or.inr ⟨?_, ?_⟩) (by assumption) ?_; rotate_left 2; (· (simp only [List.getElem?_toArray, List.getElem?_cons_succ, List.getElem?_cons_zero]; first | done | rfl)); (· exact (fun _ _ _ h => h)); (· rfl); (· rfl)) | fail
            (try simp only [Act.put, List.setIfInBounds_toArray, List.set_cons_zero, List.set_cons_succ])
            first | (refine wpAnyH_take (i := 2) (oi := ?_) (v := ?_) ?_ (by kernel_rfl) (by kernel_rfl) (by kernel_rfl) ?_ (Or.inl ⟨?_, ?_⟩) (by assumption) ?_; rotate_left 2; (· (simp only [List.getElem?_toArray, List.getElem?_cons_succ, List.getElem?_cons_zero]; first | done | rfl)); (· exact (fun _ _ _ h => h)); (· rfl); (· (intro w hSw; (try dsimp only at hSw); go_simp; (try with_reducible rfl)))) | (refine wpAnyH_take (i := 2) (oi := ?_) (v := ?_) ?_ (by kernel_rfl) (by kernel_rfl) (by kernel_rfl) ?_ (Or.inr ⟨?_, ?_⟩) (by assumption) ?_; rotate_left 2; (· (simp only [List.getElem?_toArray, List.getElem?_cons_succ, List.getElem?_cons_zero]; first | done | rfl)); (· exact (fun _ _ _ h => h)); (· rfl); (· rfl)) | fail
            (try simp only [Act.put, List.setIfInBounds_toArray, List.set_cons_zero, List.set_cons_succ])
            first | (refine wpAnyH_take (i := 4) (oi := ?_) (v := ?_) ?_ (by kernel_rfl) (by kernel_rfl) (by kernel_rfl) ?_ (Or.inl ⟨?_, ?_⟩) (by assumption) ?_; rotate_left 2; (· (simp only [List.getElem?_toArray, List.getElem?_cons_succ, List.getElem?_cons_zero]; first | done | rfl)); (· exact (fun _ _ _ h => h)); (· rfl); (· (intro w hSw; (try dsimp only at hSw); go_simp; (try with_reducible rfl)))) | (refine wpAnyH_take (i := 4) (oi := ?_) (v := ?_) ?_ (by kernel_rfl) (by kernel_rfl) (by kernel_rfl) ?_ (Or.inr ⟨?_, ?_⟩) (by assumption) ?_; rotate_left 2; (· (simp only [List.getElem?_toArray, List.getElem?_cons_succ, List.getElem?_cons_zero]; first | done | rfl)); (· exact (fun _ _ _ h => h)); (· rfl); (· rfl)) | fail
            (try simp only [Act.put, List.setIfInBounds_toArray, List.set_cons_zero, List.set_cons_succ])
            first | (refine wpAnyH_take (i := 5) (oi := ?_) (v := ?_) ?_ (by kernel_rfl) (by kernel_rfl) (by kernel_rfl) ?_ (Or.inl ⟨?_, ?_⟩) (by assumption) ?_; rotate_left 2; (· (simp only [List.getElem?_toArray, List.getElem?_cons_succ, List.getElem?_cons_zero]; first | done | rfl)); (· exact (fun _ _ _ h => h)); (· rfl); (· (intro w hSw; (try dsimp only at hSw); go_simp; (try with_reducible rfl)))) | (refine wpAnyH_take (i := 5) (oi := ?_) (v := ?_) ?_ (by kernel_rfl) (by kernel_rfl) (by kernel_rfl) ?_ (Or.inr ⟨?_, ?_⟩) (by assumption) ?_; rotate_left 2; (· (simp only [List.getElem?_toArray, List.getElem?_cons_succ, List.getElem?_cons_zero]; first | done | rfl)); (· exact (fun _ _ _ h => h)); (· rfl); (· rfl)) | fail
            (try simp only [Act.put, List.setIfInBounds_toArray, List.set_cons_zero, List.set_cons_succ])
            first | (refine wpAnyH_take (i := 6) (oi := ?_) (v := ?_) ?_ (by kernel_rfl) (by kernel_rfl) (by kernel_rfl) ?_ (Or.inl ⟨?_, ?_⟩) (by assumption) ?_; rotate_left 2; (· (simp only [List.getElem?_toArray, List.getElem?_cons_succ, List.getElem?_cons_zero]; first | done | rfl)); (· exact (fun _ _ _ h => h)); (· rfl); (· (intro w hSw; (try dsimp only at hSw); go_simp; (try with_reducible rfl)))) | (refine wpAnyH_take (i := 6) (oi := ?_) (v := ?_) ?_ (by kernel_rfl) (by kernel_rfl) (by kernel_rfl) ?_ (Or.inr ⟨?_, ?_⟩) (by assumption) ?_; rotate_left 2; (· (simp only [List.getElem?_toArray, List.getElem?_cons_succ, List.getElem?_cons_zero]; first | done | rfl)); (· exact (fun _ _ _ h => h)); (· rfl); (· rfl)) | fail
            (try simp only [Act.put, List.setIfInBounds_toArray, List.set_cons_zero, List.set_cons_succ])
            refine wpAnyH_ready (rs := [3]) (by kernel_rfl) (by simp) ?_
            refine AllReadyH.cons (o := ?_) ?_ (fun K hK => ?_) AllReadyH.nil
            rotate_left 1
            · (simp only [List.getElem?_toArray, List.getElem?_cons_succ, List.getElem?_cons_zero]; first | done | rfl)
            go_simp
            first | (refine hK.out _ _ ?_ (fun hq1 => ?_)) | ((fail); refine hK.out _ _ ?_ (fun hq1 => ?_)) | ((fail); go_wp2_with fail; refine hK.out _ _ ?_ (fun hq1 => ?_)) | fail
            · ((try dsimp only); (first | exact HBW2.out | exact bdrewN HBW2.out 1 | assumption | exact bdrewN (by assumption) 1))
            clear hK K
            (try simp only [Act.put, List.setIfInBounds_toArray, List.set_cons_zero, List.set_cons_succ])
            clear hq0
            refine wpAnyH_ready (rs := [7]) (by kernel_rfl) (by simp) ?_
            refine AllReadyH.cons (o := ?_) ?_ (fun K hK => ?_) AllReadyH.nil
            rotate_left 1
            · (simp only [List.getElem?_toArray, List.getElem?_cons_succ, List.getElem?_cons_zero]; first | done | rfl)
            go_simp
            first | (refine hK.out _ _ ?_ (fun hq2 => ?_)) | ((fail); refine hK.out _ _ ?_ (fun hq2 => ?_)) | ((fail); go_wp2_with fail; refine hK.out _ _ ?_ (fun hq2 => ?_)) | fail
            · ((try dsimp only); (first | exact HBW2.out | exact bdrewN HBW2.out 1 | assumption | exact bdrewN (by assumption) 1))
            clear hK K
            (try simp only [Act.put, List.setIfInBounds_toArray, List.set_cons_zero, List.set_cons_succ])
            clear hq1
            first | (refine wpAnyH_take (i := 8) (oi := ?_) (v := ?_) ?_ (by kernel_rfl) (by kernel_rfl) (by kernel_rfl) ?_ (Or.inl ⟨?_, ?_⟩) (by assumption) ?_; rotate_left 2; (· (simp only [List.getElem?_toArray, List.getElem?_cons_succ, List.getElem?_cons_zero]; first | done | rfl)); (· exact (fun _ _ _ h => h)); (· rfl); (· (intro w hSw; (try dsimp only at hSw); go_simp; (try with_reducible rfl)))) | (refine wpAnyH_take (i := 8) (oi := ?_) (v := ?_) ?_ (by kernel_rfl) (by kernel_rfl) (by kernel_rfl) ?_ (Or.inr ⟨?_, ?_⟩) (by assumption) ?_; rotate_left 2; (· (simp only [List.getElem?_toArray, List.getElem?_cons_succ, List.getElem?_cons_zero]; first | done | rfl)); (· exact (fun _ _ _ h => h)); (· rfl); (· rfl)) | fail
            (try simp only [Act.put, List.setIfInBounds_toArray, List.set_cons_zero, List.set_cons_succ])
            refine wpAnyH_done (by kernel_rfl) ?_ _
            go_wp2_with fail
            go_meet
            exact ⟨_, _, [], rfl, Lib.hid (by rw [HL0.out]), Lib.hid (fun i hi => absurd hi (Nat.not_lt_zero _)), by simp, Lib.hid (fun i hi => absurd hi (by omega)), Lib.hid (by assumption)⟩
          case rest => as_aux_lemma =>
            obtain ⟨m0, mc, l', rfl, HNL, HML, hlen, HATX, HBX⟩ := hcut
            have hn1 (w : World) (h : Attrs w (some a) l) := new_any s (some a) cap l w h (by omega)
            have hn2 (w : World) (h : Attrs w m0 l') := new_any t m0 mc l' w h (by omega)
            rw [HNL.out] at hn2
            simp only [h0] at hn1
            have hes (w : World) (b1 : Option Addr) (cp1 : Nat) (b2 : Option Addr) (cp2 : Nat) (h1 : Attrs w b1 (newB l)) (h2 : Attrs w b2 (newB l)) := esame_any s t b1 b2 cp1 cp2 (newB l) (newB l) w h1 h2 (by have := newB_len l; omega) (by have := newB_len l; omega) HNUM.out HNUM.out
            rw [sameL_self, Bool.and_true] at hes
            have HN1 := Lib.hid hn1; have HN2 := Lib.hid hn2; have HES := Lib.hid hes
            clear hn1 hn2 hes HNL HNUM
            generalize newB l = nb at *
            generalize l'.length = ln at *
            go_wp2_with fail
            refine (HN1.out _ HATX.out).mono ?_
            rintro e w6 ⟨b1, cp1, rfl, hat6, _, hb6⟩
            go_wp2_with fail
            refine (HN2.out _ (HML.out.below hb6)).mono ?_
            rintro e w7 ⟨b2, cp2, rfl, hat7, _, hb7⟩
            go_wp2_with fail
            refine (HES.out _ b1 cp1 b2 cp2 (hat6.below hb7) hat7).mono ?_
            rintro e w8 ⟨rfl, hb8⟩
            cases hst : (s == t)
            · go_wp2_with fail
              go_ret
              exact ⟨rfl, btrans (btrans (btrans HBX.out hb6) hb7) hb8⟩
            · go_wp2_with fail
              go_ret
              exact ⟨rfl, btrans (btrans (btrans HBX.out hb6) hb7) hb8⟩
      · have p0 : (0 : Int) < (l.length : Int) := by omega
        obtain ⟨a, rfl, _⟩ := HAT2.out 0 (by omega)
        go_upto_region 17 with fail
        obtain ⟨r, hr, hrl⟩ : ∃ r : Nat, (m : Int) % (l.length : Int) = (r : Int) ∧ r < l.length := ⟨m % l.length, by simp, Nat.mod_lt _ (by omega)⟩
        simp only [hr]
        clear hr hbits
        have r0 : (0 : Int) ≤ (r : Int) := by omega
        have r1 : (r : Int) ≤ (l.length : Int) := by omega
        have r2 : (r : Int) ≤ (cap : Int) := by omega
        have r3 : (l.length : Int) ≤ (cap : Int) := by omega
        have hst : (fun w' => Attrs w' (some a) l ∧ Below w.heap.size w w') wr := ⟨HAT2.out, HBW2.out⟩
        have HS17 := Lib.hid hst
        clear hst
        obtain ⟨i0, hi, hz0, hz1, hz2⟩ := info_parts info_attr
        have hd6 : (flatA (l.drop r)).length = (l.length - r) * 6 := by rw [flatA_len, List.length_drop]
        have ht6 : (flatA (l.take r)).length = r * 6 := by rw [flatA_len, List.length_take, Nat.min_eq_left (by omega)]
        have hnl := HROT.out r
        have HNLL := Lib.hid hnl
        have hcr : ¬ cap = r := by omega
        have hl' : (l.drop r ++ l.take r).length = 0 + (l.length - r) + r := by rw [List.length_append, List.length_drop, List.length_take]; omega
        have hlm : (l.drop r ++ l.take r).length ≤ 100 := by rw [hl']; omega
        clear hnl HROT
        go_cut [13] (fun v wx => ∃ (m0 : Option Addr) (mc : Nat) (l' : List A), v = .slice m0 l'.length mc ∧ Hid (newB l' = newB l) ∧ Hid (Attrs wx m0 l') ∧ l'.length ≤ 100 ∧ Hid (Attrs wx (some a) l) ∧ Hid (Below w.heap.size w wx))
        case first => as_aux_lemma =>
          refine wp_region_held_drew (S := (fun w' => Attrs w' (some a) l ∧ Below w.heap.size w w')) (by kernel_rfl) ?_ (fun hq0 => ?_)
          · ((try dsimp only); (first | exact HS17.out | exact s17_below (bdrewN (Below.refl _ _) 1) HS17.out | assumption | exact s17_below (by assumption) (by assumption)))
          first | (refine wpAnyH_take (i := 0) (oi := ?_) (v := ?_) ?_ (by kernel_rfl) (by kernel_rfl) (by kernel_rfl) ?_ (Or.inl ⟨?_, ?_⟩) (by assumption) ?_; rotate_left 2; (· (simp only [List.getElem?_toArray, List.getElem?_cons_zero]; first | done | rfl)); (· exact (fun _ _ _ h => h)); (· rfl); (· (intro w hSw; (try dsimp only at hSw); go_simp; (try with_reducible rfl)))) | (refine wpAnyH_take (i := 0) (oi := ?_) (v := ?_) ?_ (by kernel_rfl) (by kernel_rfl) (by kernel_rfl) ?_ (Or.inr ⟨?_, ?_⟩) (by assumption) ?_; rotate_left 2; (· (simp only [List.getElem?_toArray, List.getElem?_cons_zero]; first | done | rfl)); (· exact (fun _ _ _ h => h)); (· rfl); (· rfl)) | fail
          (try simp only [Act.put, List.setIfInBounds_toArray, List.set_cons_zero, List.set_cons_succ])
          first | (refine wpAnyH_take (i := 1) (oi := ?_) (v := ?_) ?_ (by kernel_rfl) (by kernel_rfl) (by kernel_rfl) ?_ (Or.inl ⟨?_, ?_⟩) (by assumption) ?_; rotate_left 2; (· (simp only [List.getElem?_toArray, List.getElem?_cons_succ, List.getElem?_cons_zero]; first | done | rfl)); (· exact (fun _ _ _ h => h)); (· rfl); (· (intro w hSw; (try dsimp only at hSw); go_simp; (try with_reducible rfl)))) | (refine wpAnyH_take (i := 1) (oi := ?_) (v := ?_) ?_ (by kernel_rfl) (by kernel_rfl) (by kernel_rfl) ?_ (Or.inr ⟨?_, ?_⟩) (by assumption) ?_; rotate_left 2; (· (simp only [List.getElem?_toArray, List.getElem?_cons_succ, List.getElem?_cons_zero]; first | done | rfl)); (· exact (fun _ _ _ h => h)); (· rfl); (· rfl)) | fail
          (try simp only [Act.put, List.setIfInBounds_toArray, List.set_cons_zero, List.set_cons_succ])
          first | (refine wpAnyH_take (i := 2) (oi := ?_) (v := ?_) ?_ (by kernel_rfl) (by kernel_rfl) (by kernel_rfl) ?_ (Or.inl ⟨?_, ?_⟩) (by assumption) ?_; rotate_left 2; (· (simp only [List.getElem?_toArray, List.getElem?_cons_succ, List.getElem?_cons_zero]; first | done | rfl)); (· exact (fun _ _ _ h => h)); (· rfl); (· (intro w hSw; (try dsimp only at hSw); go_simp; (try with_reducible rfl)))) | (refine wpAnyH_take (i := 2) (oi := ?_) (v := ?_) ?_ (by kernel_rfl) (by kernel_rfl) (by kernel_rfl) ?_ (Or.inr ⟨?_, ?_⟩) (by assumption) ?_; rotate_left 2; (· (simp only [List.getElem?_toArray, List.getElem?_cons_succ, List.getElem?_cons_zero]; first | done | rfl)); (· exact (fun _ _ _ h => h)); (· rfl); (· rfl)) | fail
          (try simp only [Act.put, List.setIfInBounds_toArray, List.set_cons_zero, List.set_cons_succ])
          first | (refine wpAnyH_take (i := 4) (oi := ?_) (v := ?_) ?_ (by kernel_rfl) (by kernel_rfl) (by kernel_rfl) ?_ (Or.inl ⟨?_, ?_⟩) (by assumption) ?_; rotate_left 2; (· (simp only [List.getElem?_toArray, List.getElem?_cons_succ, List.getElem?_cons_zero]; first | done | rfl)); (· exact (fun _ _ _ h => h)); (· rfl); (· (intro w hSw; (try dsimp only at hSw); go_simp; (try with_reducible rfl)))) | (refine wpAnyH_take (i := 4) (oi := ?_) (v := ?_) ?_ (by kernel_rfl) (by kernel_rfl) (by kernel_rfl) ?_ (Or.inr ⟨?_, ?_⟩) (by assumption) ?_; rotate_left 2; (· (simp only [List.getElem?_toArray, List.getElem?_cons_succ, List.getElem?_cons_zero]; first | done | rfl)); (· exact (fun _ _ _ h => h)); (· rfl); (· rfl)) | fail
          (try simp only [Act.put, List.setIfInBounds_toArray, List.set_cons_zero, List.set_cons_succ])
          first | (refine wpAnyH_take (i := 5) (oi := ?_) (v := ?_) ?_ (by kernel_rfl) (by kernel_rfl) (by kernel_rfl) ?_ (Or.inl ⟨?_, ?_⟩) (by assumption) ?_; rotate_left 2; (· (simp only [List.getElem?_toArray, List.getElem?_cons_succ, List.getElem?_cons_zero]; first | done | rfl)); (· exact (fun _ _ _ h => h)); (· rfl); (· (intro w hSw; (try dsimp only at hSw); go_simp; (try with_reducible rfl)))) | (refine wpAnyH_take (i := 5) (oi := ?_) (v := ?_) ?_ (by kernel_rfl) (by kernel_rfl) (by kernel_rfl) ?_ (Or.inr ⟨?_, ?_⟩) (by assumption) ?_; rotate_left 2; (· (simp only [List.getElem?_toArray, List.getElem?_cons_succ, List.getElem?_cons_zero]; first | done | rfl)); (· exact (fun _ _ _ h => h)); (· rfl); (· rfl)) | fail
          (try simp only [Act.put, List.setIfInBounds_toArray, List.set_cons_zero, List.set_cons_succ])
          first | (refine wpAnyH_take (i := 6) (oi := ?_) (v := ?_) ?_ (by kernel_rfl) (by kernel_rfl) (by kernel_rfl) ?_ (Or.inl ⟨?_, ?_⟩) (by assumption) ?_; rotate_left 2; (· (simp only [List.getElem?_toArray, List.getElem?_cons_succ, List.getElem?_cons_zero]; first | done | rfl)); (· exact (fun _ _ _ h => h)); (· rfl); (· (intro w hSw; (try dsimp only at hSw); go_simp; (try with_reducible rfl)))) | (refine wpAnyH_take (i := 6) (oi := ?_) (v := ?_) ?_ (by kernel_rfl) (by kernel_rfl) (by kernel_rfl) ?_ (Or.inr ⟨?_, ?_⟩) (by assumption) ?_; rotate_left 2; (· (simp only [List.getElem?_toArray, List.getElem?_cons_succ, List.getElem?_cons_zero]; first | done | rfl)); (· exact (fun _ _ _ h => h)); (· rfl); (· rfl)) | fail
          (try simp only [Act.put, List.setIfInBounds_toArray, List.set_cons_zero, List.set_cons_succ])
          refine wpAnyH_ready (rs := [3]) (by kernel_rfl) (by simp) ?_
          refine AllReadyH.cons (o := ?_) ?_ (fun K hK => ?_) AllReadyH.nil
          rotate_left 1
          · (simp only [List.getElem?_toArray, List.getElem?_cons_succ, List.getElem?_cons_zero]; first | done | rfl)
          (refine wp_append_own _ _ _ 22 rfl w.heap.size 32 i0 _ 6 64 Tryz.underlying22 hi hz0 hz1 hz2 rfl (by decide) (.slice none 0 0) 0 [] rfl (World.ownsRow_nil _ _ _ _) (a.add (r * 6)) (l.length - r) (cap - r) (flatA (l.drop r)) rfl hd6 (attrs_lie (s17_attrs hq0) r) (flatA_one _) (by unfold maxLen; omega) (by omega) ((s17_own hq0).size) ?_; intro v1 w4 how1 hg1 _; have hb4 : Below w.heap.size w w4 := Below.grown (s17_own hq0) hg1 ((s17_own hq0).size) (fun q hq => by cases hq); have hs4 : (fun w' => Attrs w' (some a) l ∧ Below w.heap.size w w') w4 := ⟨HL.out.below hb4, hb4⟩); refine hK.out _ _ ?_ (fun hq1 => ?_)
          · ((try dsimp only); (first | exact HS17.out | exact s17_below (bdrewN (Below.refl _ _) 1) HS17.out | assumption | exact s17_below (by assumption) (by assumption)))
          clear hK K
          (try simp only [Act.put, List.setIfInBounds_toArray, List.set_cons_zero, List.set_cons_succ])
          clear hq0
          refine wpAnyH_ready (rs := [7]) (by kernel_rfl) (by simp) ?_
          refine AllReadyH.cons (o := ?_) ?_ (fun K hK => ?_) AllReadyH.nil
          rotate_left 1
          · (simp only [List.getElem?_toArray, List.getElem?_cons_succ, List.getElem?_cons_zero]; first | done | rfl)
          (refine wp_append_own _ _ _ 22 rfl w.heap.size 32 i0 _ 6 64 Tryz.underlying22 hi hz0 hz1 hz2 rfl (by decide) v1 _ _ rfl how1 a r cap (flatA (l.take r)) rfl ht6 (attrs_take (s17_attrs hq1) r) (flatA_one _) (by unfold maxLen; omega) (by omega) ((s17_own hq1).size) ?_; intro v2 w5 how2 hg2 _; have hb5 : Below w.heap.size w w5 := Below.grown (s17_own hq1) hg2 ((s17_own hq1).size) (fun q hq => (how1.lt q hq).1); have hs5 : (fun w' => Attrs w' (some a) l ∧ Below w.heap.size w w') w5 := ⟨HL.out.below hb5, hb5⟩; have how3 : w5.ownsRow w.heap.size 32 6 v2 (l.drop r ++ l.take r).length (flatA (l.drop r ++ l.take r)) := (by rw [hl', flatA_apps]; exact how2); obtain ⟨m0, mc, rfl, hatm⟩ := own_attrs how3; have HATM := Lib.hid hatm); refine hK.out _ _ ?_ (fun hq2 => ?_)
          · ((try dsimp only); (first | exact HS17.out | exact s17_below (bdrewN (Below.refl _ _) 1) HS17.out | assumption | exact s17_below (by assumption) (by assumption)))
          clear hK K
          (try simp only [Act.put, List.setIfInBounds_toArray, List.set_cons_zero, List.set_cons_succ])
          clear hq1
          first | (refine wpAnyH_take (i := 8) (oi := ?_) (v := ?_) ?_ (by kernel_rfl) (by kernel_rfl) (by kernel_rfl) ?_ (Or.inl ⟨?_, ?_⟩) (by assumption) ?_; rotate_left 2; (· (simp only [List.getElem?_toArray, List.getElem?_cons_succ, List.getElem?_cons_zero]; first | done | rfl)); (· exact (fun _ _ _ h => h)); (· rfl); (· (intro w hSw; (try dsimp only at hSw); go_simp; (try with_reducible rfl)))) | (refine wpAnyH_take (i := 8) (oi := ?_) (v := ?_) ?_ (by kernel_rfl) (by kernel_rfl) (by kernel_rfl) ?_ (Or.inr ⟨?_, ?_⟩) (by assumption) ?_; rotate_left 2; (· (simp only [List.getElem?_toArray, List.getElem?_cons_succ, List.getElem?_cons_zero]; first | done | rfl)); (· exact (fun _ _ _ h => h)); (· rfl); (· rfl)) | fail
          (try simp only [Act.put, List.setIfInBounds_toArray, List.set_cons_zero, List.set_cons_succ])
          refine wpAnyH_done (by kernel_rfl) ?_ _
          go_wp2_with fail
          go_meet
          exact ⟨m0, mc, _, congrArg (fun n => Value.slice m0 n mc) (by rw [hl']; omega), HNLL, HATM, hlm, Lib.hid hs5.1, Lib.hid hs5.2⟩
        case rest => as_aux_lemma =>
          obtain ⟨m0, mc, l', rfl, HNL, HML, hlen, HATX, HBX⟩ := hcut
          have hn1 (w : World) (h : Attrs w (some a) l) := new_any s (some a) cap l w h (by omega)
          have hn2 (w : World) (h : Attrs w m0 l') := new_any t m0 mc l' w h (by omega)
          rw [HNL.out] at hn2
          have hes (w : World) (b1 : Option Addr) (cp1 : Nat) (b2 : Option Addr) (cp2 : Nat) (h1 : Attrs w b1 (newB l)) (h2 : Attrs w b2 (newB l)) := esame_any s t b1 b2 cp1 cp2 (newB l) (newB l) w h1 h2 (by have := newB_len l; omega) (by have := newB_len l; omega) HNUM.out HNUM.out
          rw [sameL_self, Bool.and_true] at hes
          have HN1 := Lib.hid hn1; have HN2 := Lib.hid hn2; have HES := Lib.hid hes
          clear hn1 hn2 hes HNL HNUM
          generalize newB l = nb at *
          generalize l'.length = ln at *
          go_wp2_with fail
          refine (HN1.out _ HATX.out).mono ?_
          rintro e w6 ⟨b1, cp1, rfl, hat6, _, hb6⟩
          go_wp2_with fail
          refine (HN2.out _ (HML.out.below hb6)).mono ?_
          rintro e w7 ⟨b2, cp2, rfl, hat7, _, hb7⟩
          go_wp2_with fail
          refine (HES.out _ b1 cp1 b2 cp2 (hat6.below hb7) hat7).mono ?_
          rintro e w8 ⟨rfl, hb8⟩
          cases hst : (s == t)
          · go_wp2_with fail
            go_ret
            exact ⟨rfl, btrans (btrans (btrans HBX.out hb6) hb7) hb8⟩
          · go_wp2_with fail
            go_ret
            exact ⟨rfl, btrans (btrans (btrans HBX.out hb6) hb7) hb8⟩
end Go.Proofs.YtdggofleokjmcaaGreatDoor.Val
