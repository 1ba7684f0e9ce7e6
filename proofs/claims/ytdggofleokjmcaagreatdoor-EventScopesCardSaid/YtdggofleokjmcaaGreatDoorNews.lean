/- THE WALK OF the law EventNews. -/
import Derived.Test.YtdggofleokjmcaaGreatDoorNewsFn
import Derived.Test.YtdggofleokjmcaaGreatDoorGets
import Derived.Test.YtdggofleokjmcaaGreatDoorRightsFn
import Derived.Carry
import Derived.Deep.DeepCutAuto
import Derived.Deep.LoopGhost
namespace Go.Proofs.YtdggofleokjmcaaGreatDoor.Val
open Go.RowKit Flt
attribute [local go_sem] run_store_flt
theorem nsg_below {be bx bv : Nat} {pp : Addr} {e0 e1 p0 p1 p2 p3 p4 p5 q0 g0 g1 g2 g3 g4 : Value} {W0 w1 w2 : World} (hb : Below w1.heap.size w1 w2) (h : (fun w' => w'.cell? ⟨be, 0, none⟩ = some e0 ∧ w'.cell? ⟨be, 1, none⟩ = some e1 ∧ w'.cell? ⟨bx, 0, none⟩ = some p0 ∧ w'.cell? ⟨bx, 1, none⟩ = some p1 ∧ w'.cell? ⟨bx, 2, none⟩ = some p2 ∧ w'.cell? ⟨bx, 3, none⟩ = some p3 ∧ w'.cell? ⟨bx, 4, none⟩ = some p4 ∧ w'.cell? ⟨bx, 5, none⟩ = some p5 ∧ w'.cell? pp = some q0 ∧ w'.cell? ⟨bv, 0, none⟩ = some g0 ∧ w'.cell? ⟨bv, 1, none⟩ = some g1 ∧ w'.cell? ⟨bv, 2, none⟩ = some g2 ∧ w'.cell? ⟨bv, 3, none⟩ = some g3 ∧ w'.cell? ⟨bv, 4, none⟩ = some g4 ∧ be < w'.heap.size ∧ bx < w'.heap.size ∧ pp.block < w'.heap.size ∧ bv < w'.heap.size ∧ Below W0.heap.size W0 w') w1) : (fun w' => w'.cell? ⟨be, 0, none⟩ = some e0 ∧ w'.cell? ⟨be, 1, none⟩ = some e1 ∧ w'.cell? ⟨bx, 0, none⟩ = some p0 ∧ w'.cell? ⟨bx, 1, none⟩ = some p1 ∧ w'.cell? ⟨bx, 2, none⟩ = some p2 ∧ w'.cell? ⟨bx, 3, none⟩ = some p3 ∧ w'.cell? ⟨bx, 4, none⟩ = some p4 ∧ w'.cell? ⟨bx, 5, none⟩ = some p5 ∧ w'.cell? pp = some q0 ∧ w'.cell? ⟨bv, 0, none⟩ = some g0 ∧ w'.cell? ⟨bv, 1, none⟩ = some g1 ∧ w'.cell? ⟨bv, 2, none⟩ = some g2 ∧ w'.cell? ⟨bv, 3, none⟩ = some g3 ∧ w'.cell? ⟨bv, 4, none⟩ = some g4 ∧ be < w'.heap.size ∧ bx < w'.heap.size ∧ pp.block < w'.heap.size ∧ bv < w'.heap.size ∧ Below W0.heap.size W0 w') w2 := by
  obtain ⟨c0, c1, b0, b1, b2, b3, b4, b5, q0, g0, g1, g2, g3, g4, l0, l1, l2, l3, hb0⟩ := h
  have c : ∀ o, w2.cell? ⟨be, o, none⟩ = w1.cell? ⟨be, o, none⟩ := fun o => hb.cell (p := ⟨be, o, none⟩) l0
  have d : ∀ o, w2.cell? ⟨bx, o, none⟩ = w1.cell? ⟨bx, o, none⟩ := fun o => hb.cell (p := ⟨bx, o, none⟩) l1
  have e : ∀ o, w2.cell? ⟨bv, o, none⟩ = w1.cell? ⟨bv, o, none⟩ := fun o => hb.cell (p := ⟨bv, o, none⟩) l3
  have up : ∀ {n : Nat}, n < w1.heap.size → n < w2.heap.size := fun h => Nat.lt_of_lt_of_le h hb.size
  exact ⟨by rw [c]; exact c0, by rw [c]; exact c1, by rw [d]; exact b0, by rw [d]; exact b1, by rw [d]; exact b2, by rw [d]; exact b3, by rw [d]; exact b4, by rw [d]; exact b5, (hb.cell (p := pp) l2).trans q0, by rw [e]; exact g0, by rw [e]; exact g1, by rw [e]; exact g2, by rw [e]; exact g3, by rw [e]; exact g4, up l0, up l1, up l2, up l3, btrans hb0 hb⟩
theorem MapR.below {w w' : World} {b n c : Nat} {f : List UInt8 → Option Value} (h : MapR w b n f c) (hb : Below w.heap.size w w') : MapR w' b n f c := by
  obtain ⟨D, h1, h2⟩ := h
  have hlt := h1.lt
  obtain ⟨es, clock, hbk, F, hs, hD⟩ := h1
  exact ⟨D, ⟨es, clock, (hb.block b hlt).trans hbk, F, hs, hD⟩, h2⟩
theorem es26_below {be cp : Nat} {b0 : Option Addr} {nb : List A} {t : List UInt8} {w w1 w2 : World} (hb : Below w1.heap.size w1 w2) (h : (fun w' => w'.cell? ⟨be, 0, none⟩ = some (.string ⟨t.toArray⟩) ∧ w'.cell? ⟨be, 1, none⟩ = some (.slice b0 nb.length cp) ∧ Attrs w' b0 nb ∧ Below w.heap.size w w' ∧ be < w'.heap.size) w1) : (fun w' => w'.cell? ⟨be, 0, none⟩ = some (.string ⟨t.toArray⟩) ∧ w'.cell? ⟨be, 1, none⟩ = some (.slice b0 nb.length cp) ∧ Attrs w' b0 nb ∧ Below w.heap.size w w' ∧ be < w'.heap.size) w2 := by
  obtain ⟨h0, h1, ha, hB, hl⟩ := h
  have c : ∀ o, w2.cell? ⟨be, o, none⟩ = w1.cell? ⟨be, o, none⟩ := fun o => hb.cell (p := ⟨be, o, none⟩) hl
  exact ⟨by rw [c]; exact h0, by rw [c]; exact h1, ha.below hb, btrans hB hb, Nat.lt_of_lt_of_le hl hb.size⟩
theorem es26_attrs {be cp : Nat} {b0 : Option Addr} {nb : List A} {t : List UInt8} {w w1 : World} (h : (fun w' => w'.cell? ⟨be, 0, none⟩ = some (.string ⟨t.toArray⟩) ∧ w'.cell? ⟨be, 1, none⟩ = some (.slice b0 nb.length cp) ∧ Attrs w' b0 nb ∧ Below w.heap.size w w' ∧ be < w'.heap.size) w1) : Attrs w1 b0 nb := h.2.2.1
theorem es26_own {be cp : Nat} {b0 : Option Addr} {nb : List A} {t : List UInt8} {w w1 : World} (h : (fun w' => w'.cell? ⟨be, 0, none⟩ = some (.string ⟨t.toArray⟩) ∧ w'.cell? ⟨be, 1, none⟩ = some (.slice b0 nb.length cp) ∧ Attrs w' b0 nb ∧ Below w.heap.size w w' ∧ be < w'.heap.size) w1) : Below w.heap.size w w1 := h.2.2.2.1
theorem info_val3 : (Tryz.prog.info? 30).map (fun i => (i.zero, i.size, i.bytes)) = some (some (.agg #[.int .i64 0, .int .i64 0, .float .f64 0, .string .empty, .bool false]), 5, 48) := by kernel_rfl
theorem zero_value (w : World) : (zeroValue 30).run Tryz.prog w = .ok (.agg #[.int .i64 0, .int .i64 0, .float .f64 0, .string ⟨#[]⟩, .bool false]) w := by
  obtain ⟨i0, hi, hz0, hz1, hz2⟩ := info_parts info_val3
  simp [zeroValue, typeInfo, hi, hz0, Sem.run_bind, Result.andThen, go_sem]
  rfl
set_option maxRecDepth 20000 in
set_option maxHeartbeats 4000000 in
theorem news_law (a0 : Option Addr) (cap : Nat) (l : List A) (t : List UInt8) (w : World) (hl : Attrs w a0 l) (hok : ∀ x ∈ l, Open.AOk x) (hm : l.length ≤ maxLen) (ht : t.length ≤ 140737488351232) :
    Calls Tryz.prog 6 #[.slice a0 l.length cap, .string ⟨t.toArray⟩] w fun e w' => e = .returned (.bool true) ∧ Below w.heap.size w w' := by
  have hli (w : World) (h : Attrs w a0 l) := light03_any a0 cap l w h hok hm
  have hnum := newB_num hok
  have hntx := new_text hok
  have HL := Lib.hid hl; have HLI := Lib.hid hli; have HNUM := Lib.hid hnum; have HM := Lib.hid hm; have HNTX := Lib.hid hntx
  clear hl hli hnum hntx
  cases hlb : lightB l
  · rw [hlb] at HLI
    clear hlb hm hok HNUM HM
    go_enter Tryz.func6, Tryz.ntmps6
    go_wp2_with (first | (go_at_call 15; refine (fit03_any _).mono ?_; rintro e w1 ⟨rfl, hb1⟩) | (go_at_call 16; refine (HLI.out _ (HL.out.below (by repeat (first | assumption | (with_reducible exact Below.refl _ _) | exact balloc _ _ | exact balloc2 _ _ _ | refine btrans ?_ (by assumption) | refine btrans ?_ (balloc _ _))))).mono ?_; rintro e w2 ⟨rfl, hb2⟩))
    go_ret
    exact ⟨rfl, by repeat (first | assumption | (with_reducible exact Below.refl _ _) | exact balloc _ _ | exact balloc2 _ _ _ | refine btrans ?_ (by assumption) | refine btrans ?_ (balloc _ _))⟩
  rw [hlb] at HLI
  have hl30 : l.length ≤ 30 := by
    unfold lightB at hlb
    simp at hlb
    exact hlb.2
  clear hlb hm
  by_cases h100 : t.length ≤ 100
  rotate_left
  · have d1 : decide (100 < (t.length : Int)) = true := by rw [decide_eq_true_iff]; omega
    clear hok HNUM HM h100
    go_enter Tryz.func6, Tryz.ntmps6
    go_wp2_with (first | (go_at_call 15; refine (fit03_any _).mono ?_; rintro e w1 ⟨rfl, hb1⟩) | (go_at_call 16; refine (HLI.out _ (HL.out.below (by repeat (first | assumption | (with_reducible exact Below.refl _ _) | exact balloc _ _ | exact balloc2 _ _ _ | refine btrans ?_ (by assumption) | refine btrans ?_ (balloc _ _))))).mono ?_; rintro e w2 ⟨rfl, hb2⟩))
    go_ret
    exact ⟨rfl, by repeat (first | assumption | (with_reducible exact Below.refl _ _) | exact balloc _ _ | exact balloc2 _ _ _ | refine btrans ?_ (by assumption) | refine btrans ?_ (balloc _ _))⟩
  have d1 : decide (100 < (t.length : Int)) = false := by rw [decide_eq_false_iff_not]; omega
  have hnew (w : World) (h : Attrs w a0 l) := new_any t a0 cap l w h (by omega)
  have hnl := newB_len l
  have HNEW := Lib.hid hnew; have HOK := Lib.hid hok
  clear hnew hok ht h100
  obtain ⟨nb, hnb⟩ : ∃ nb, nb = newB l := ⟨_, rfl⟩
  have HNB := Lib.hid hnb
  rw [← hnb] at HNEW hnl HNUM HNTX
  clear hnb
  have hmm := @run_makeMap Tryz.prog
  go_enter Tryz.func6, Tryz.ntmps6
  go_wp2_with (first | (go_at_call 15; refine (fit03_any _).mono ?_; rintro e w1 ⟨rfl, hb1⟩) | (go_at_call 16; refine (HLI.out _ (HL.out.below (by repeat (first | assumption | (with_reducible exact Below.refl _ _) | exact balloc _ _ | exact balloc2 _ _ _ | refine btrans ?_ (by assumption) | refine btrans ?_ (balloc _ _))))).mono ?_; rintro e w2 ⟨rfl, hb2⟩))
  refine (HNEW.out _ (HL.out.below (by repeat (first | assumption | (with_reducible exact Below.refl _ _) | exact balloc _ _ | exact balloc2 _ _ _ | refine btrans ?_ (by assumption) | refine btrans ?_ (balloc _ _))))).mono ?_
  rintro e w3 ⟨b0, cp, rfl, hat3, _, hb3⟩
  have hbr3 : Below w.heap.size w w3 := by repeat (first | assumption | (with_reducible exact Below.refl _ _) | exact balloc _ _ | exact balloc2 _ _ _ | refine btrans ?_ (by assumption) | refine btrans ?_ (balloc _ _))
  have HB3 := Lib.hid hbr3; have HAT3 := Lib.hid hat3
  clear hb1 hb2 hb3 hbr3 hat3 HNEW HLI
  go_wp2_with fail
  have hmr : MapR ((w3.alloc (.cells #[.string ⟨t.toArray⟩, .slice b0 nb.length cp] 26)).alloc (.map #[] 0)) (w3.heap.size + 1) 0 (mapOf (l.take 0)) (newB (l.take 0)).length := by
    have := mapR_made (w3.alloc (.cells #[.string ⟨t.toArray⟩, .slice b0 nb.length cp] 26))
    have e : (w3.alloc (.cells #[.string ⟨t.toArray⟩, .slice b0 nb.length cp] 26)).heap.size = w3.heap.size + 1 := by simp
    rw [e] at this
    exact this
  have hE : (w3.alloc (.cells #[.string ⟨t.toArray⟩, .slice b0 nb.length cp] 26)).cell? ⟨w3.heap.size, 0, none⟩ = some (.string ⟨t.toArray⟩) ∧ (w3.alloc (.cells #[.string ⟨t.toArray⟩, .slice b0 nb.length cp] 26)).cell? ⟨w3.heap.size, 1, none⟩ = some (.slice b0 nb.length cp) ∧ Attrs (w3.alloc (.cells #[.string ⟨t.toArray⟩, .slice b0 nb.length cp] 26)) b0 nb ∧ Attrs (w3.alloc (.cells #[.string ⟨t.toArray⟩, .slice b0 nb.length cp] 26)) a0 l ∧ Below w.heap.size w (w3.alloc (.cells #[.string ⟨t.toArray⟩, .slice b0 nb.length cp] 26)) ∧ w3.heap.size + 1 = (w3.alloc (.cells #[.string ⟨t.toArray⟩, .slice b0 nb.length cp] 26)).heap.size :=
    ⟨World.cell?_alloc_at _ _ _ _ rfl, World.cell?_alloc_at _ _ _ _ rfl, HAT3.out.below (balloc _ _), (HL.out.below HB3.out).below (balloc _ _), btrans HB3.out (balloc _ _), by simp⟩
  have HMR := Lib.hid hmr; have HE := Lib.hid hE
  clear hmr hE hmm HAT3 HB3
  generalize w3.alloc _ = W1 at *
  have hbe : w3.heap.size < W1.heap.size := by have := HE.out.2.2.2.2.2; omega
  generalize w3.heap.size = be at *
  generalize be + 1 = mb at *
  go_loopg [35] (l.length) (fun g vi wr => ∃ (k : Nat), g + k = l.length ∧ vi = .int .i64 k ∧ Hid (MapR wr mb k (mapOf (l.take k)) (newB (l.take k)).length) ∧ Below W1.heap.size W1 wr)
  case atStart => exact ⟨0, by omega, rfl, HMR, balloc _ _⟩
  case round =>
    obtain ⟨k, hgk, rfl, HK, hwr⟩ := hrel
    by_cases hlt : k < l.length
    · have i1 : (k : Int) < (l.length : Int) := by omega
      have i0 : (0 : Int) ≤ (k : Int) := by omega
      obtain ⟨a, rfl, v0, v1, v2, v3, v4, v5⟩ := (HE.out.2.2.2.1.below hwr) k hlt
      have hx := HOK.out _ (List.getElem_mem hlt)
      obtain ⟨w'', hrun, hmr2, hg⟩ := (HK.out.alloc (.cells #[.string ⟨l[k].name.toArray⟩, .int .i64 l[k].val.kind, .int .i64 l[k].val.int, .float .f64 l[k].val.num, .string ⟨l[k].val.text.toArray⟩, .bool l[k].val.yes] 32)).update Tryz.underlying42 (by unfold maxLen; omega) l[k].name (by unfold maxLen; have := hx.1; omega) (vv l[k].val)
      rw [mapOf_step l k hlt, ← newB_count l k hlt] at hmr2
      have hb2 : Below W1.heap.size W1 w'' := Below.grown (hwr.trans ((balloc wr _).mono hwr.size)) hg (by have := hwr.size; simp; omega) (fun q hq => by cases hq; rw [HE.out.2.2.2.2.2]; exact Nat.le_refl _)
      have HM2 := Lib.hid hmr2; have HB2 := Lib.hid hb2
      clear hmr2 hb2 hg hx HMR HK
      go_wp2_with fail
      go_roundg (l.length - (k + 1))
      case measure => omega
      case rel => exact ⟨k + 1, by omega, by go_num, HM2, HB2.out⟩
    · obtain rfl : k = l.length := by omega
      have e0 := (hwr.cell (p := ⟨be, 0, none⟩) hbe).trans HE.out.1
      have e1 := (hwr.cell (p := ⟨be, 1, none⟩) hbe).trans HE.out.2.1
      have hmr := HK.out
      rw [List.take_length] at hmr
      have hbw : Below w.heap.size w wr := btrans HE.out.2.2.2.2.1 hwr
      have hat := HE.out.2.2.1.below hwr
      have hbe2 : be < wr.heap.size := Nat.lt_of_lt_of_le hbe hwr.size
      have hlen := hmr.len Tryz.underlying42
      rw [← HNB.out] at hlen
      have HMR2 := Lib.hid hmr; have HBW := Lib.hid hbw; have HAT := Lib.hid hat
      clear hmr hbw hat HMR HE HK hwr HL HOK HM
      go_wp2_with fail
      clear hlen
      generalize wr = WE at *
      go_loopg [60] (nb.length) (fun g vi wy => ∃ (k : Nat), g + k = nb.length ∧ vi = .int .i64 k ∧ Below WE.heap.size WE wy)
      case atStart => exact ⟨0, by omega, rfl, Below.refl _ _⟩
      case round =>
        obtain ⟨k, hgk, rfl, hwy⟩ := hrel
        by_cases hlt : k < nb.length
        · have i1 : (k : Int) < (nb.length : Int) := by omega
          have i0 : (0 : Int) ≤ (k : Int) := by omega
          obtain ⟨a, rfl, v0, v1, v2, v3, v4, v5⟩ := (HAT.out.below hwy) k hlt
          have hmem : nb[k] ∈ nb := List.getElem_mem hlt
          have hx := HNTX.out _ hmem
          have hnum := HNUM.out _ hmem
          obtain ⟨rv, hrv, hcv⟩ : ∃ v, rawV l nb[k].name = some v ∧ canonV v = nb[k].val := by
            have h := hmem
            have hn := HNB.out
            exact raw_of_mem (by rw [← hn]; exact h)
          have hgm : foundB nb nb[k].name = true ∧ nb[bs nb nb[k].name 0 nb.length]!.val = nb[k].val := by
            have h := hmem
            have hn := HNB.out
            have h2 := get_of_mem (l := l) (a := nb[k]) (by rw [← hn]; exact h)
            rw [← hn] at h2
            exact h2
          have hlook := ((HMR2.out.below hwy).below (balloc wr (.cells #[.string ⟨nb[k].name.toArray⟩, .int .i64 nb[k].val.kind, .int .i64 nb[k].val.int, .float .f64 nb[k].val.num, .string ⟨nb[k].val.text.toArray⟩, .bool nb[k].val.yes] 32))).look_ok Tryz.underlying42 (zero_value _) nb[k].name (by unfold maxLen; have := hx.1; omega)
          rw [show mapOf l nb[k].name = some (vv rv) by unfold mapOf; rw [hrv]; rfl] at hlook
          have hprev : ∃ (pn : List UInt8) (pp : Addr), wr.cell? pp = some (.string ⟨pn.toArray⟩) ∧ (k = 0 ∨ (∃ j : Nat, k = j + 1 ∧ pp = a.add (j * 6) ∧ Op.bytesLess pn (nb[k]).name = true)) := by
            cases k with
            | zero => exact ⟨_, _, v0, Or.inl rfl⟩
            | succ j =>
              obtain ⟨a', ea, y0, _⟩ := (HAT.out.below hwy) j (by omega)
              cases ea
              refine ⟨_, _, y0, Or.inr ⟨j, rfl, rfl, ?_⟩⟩
              have hn := HNB.out
              subst hn
              rw [less_cmp, decide_eq_true_iff]
              exact newB_less l j hlt
          obtain ⟨pn, pp, hpc, hway⟩ := hprev
          have hpb := World.block_lt_of_cell? _ _ hpc
          have hbx := box_attr wr nb[k] 32
          have hcn (w : World) := vcanon_any rv.kind rv.int rv.num rv.text rv.yes w
          have hsm (w : World) := same_any nb[k].val.kind nb[k].val.int nb[k].val.num nb[k].val.text nb[k].val.yes nb[k].val.kind nb[k].val.int nb[k].val.num nb[k].val.text nb[k].val.yes w hnum hnum
          rw [sameB_self] at hsm
          have hget (w : World) (h : Attrs w (some a) nb) := get_any t (some a) cp nb nb[k].name w h (by omega)
          rw [if_pos hgm.1, hgm.1, hgm.2] at hget
          have hrvv : (⟨rv.kind, rv.int, rv.num, rv.text, rv.yes⟩ : V) = rv := rfl
          rw [hrvv, hcv] at hcn
          have f0 := (hwy.cell (p := ⟨be, 0, none⟩) hbe2).trans e0
          have f1 := (hwy.cell (p := ⟨be, 1, none⟩) hbe2).trans e1
          have HWAY := Lib.hid hway; have HCN := Lib.hid hcn; have HSM := Lib.hid hsm; have HGET := Lib.hid hget
          clear hway hcn hsm hget hrvv hcv hrv hgm hmem hx hnum
          generalize nb[k] = x at *
          obtain ⟨nm, vk, vn, vx, vt, vy⟩ := x
          obtain ⟨rk, rn, rx, rt, ry⟩ := rv
          dsimp only at v0 v1 v2 v3 v4 v5 hbx hlook HCN HSM HGET HWAY
          simp only [Option.getD_some, Option.isSome_some] at hlook
          have hbey : be < wr.heap.size := Nat.lt_of_lt_of_le hbe2 hwy.size
          have hst : (fun w' bx bv => w'.cell? ⟨be, 0, none⟩ = some (.string ⟨t.toArray⟩) ∧ w'.cell? ⟨be, 1, none⟩ = some (.slice (some a) nb.length cp) ∧ w'.cell? ⟨bx, 0, none⟩ = some (.string ⟨nm.toArray⟩) ∧ w'.cell? ⟨bx, 1, none⟩ = some (.int .i64 vk) ∧ w'.cell? ⟨bx, 2, none⟩ = some (.int .i64 vn) ∧ w'.cell? ⟨bx, 3, none⟩ = some (.float .f64 vx) ∧ w'.cell? ⟨bx, 4, none⟩ = some (.string ⟨vt.toArray⟩) ∧ w'.cell? ⟨bx, 5, none⟩ = some (.bool vy) ∧ w'.cell? pp = some (.string ⟨pn.toArray⟩) ∧ w'.cell? ⟨bv, 0, none⟩ = some (.int .i64 rk) ∧ w'.cell? ⟨bv, 1, none⟩ = some (.int .i64 rn) ∧ w'.cell? ⟨bv, 2, none⟩ = some (.float .f64 rx) ∧ w'.cell? ⟨bv, 3, none⟩ = some (.string ⟨rt.toArray⟩) ∧ w'.cell? ⟨bv, 4, none⟩ = some (.bool ry) ∧ be < w'.heap.size ∧ bx < w'.heap.size ∧ pp.block < w'.heap.size ∧ bv < w'.heap.size ∧ Below WE.heap.size WE w') ((wr.alloc (.cells #[.string ⟨nm.toArray⟩, .int .i64 vk, .int .i64 vn, .float .f64 vx, .string ⟨vt.toArray⟩, .bool vy] 32)).alloc (.cells #[.int .i64 rk, .int .i64 rn, .float .f64 rx, .string ⟨rt.toArray⟩, .bool ry] 30)) wr.heap.size (wr.heap.size + 1) := by
            obtain ⟨b0, b1, b2, b3, b4, b5⟩ := hbx
            have hz : wr.heap.size + 1 = (wr.alloc (.cells #[.string ⟨nm.toArray⟩, .int .i64 vk, .int .i64 vn, .float .f64 vx, .string ⟨vt.toArray⟩, .bool vy] 32)).heap.size := by simp
            have hb2 : Below wr.heap.size wr ((wr.alloc (.cells #[.string ⟨nm.toArray⟩, .int .i64 vk, .int .i64 vn, .float .f64 vx, .string ⟨vt.toArray⟩, .bool vy] 32)).alloc (.cells #[.int .i64 rk, .int .i64 rn, .float .f64 rx, .string ⟨rt.toArray⟩, .bool ry] 30)) := balloc2 _ _ _
            have hb1 := balloc (wr.alloc (.cells #[.string ⟨nm.toArray⟩, .int .i64 vk, .int .i64 vn, .float .f64 vx, .string ⟨vt.toArray⟩, .bool vy] 32)) (.cells #[.int .i64 rk, .int .i64 rn, .float .f64 rx, .string ⟨rt.toArray⟩, .bool ry] 30)
            have p : ∀ o, ((wr.alloc (.cells #[.string ⟨nm.toArray⟩, .int .i64 vk, .int .i64 vn, .float .f64 vx, .string ⟨vt.toArray⟩, .bool vy] 32)).alloc (.cells #[.int .i64 rk, .int .i64 rn, .float .f64 rx, .string ⟨rt.toArray⟩, .bool ry] 30)).cell? ⟨wr.heap.size + 1, o, none⟩ = #[.int .i64 rk, .int .i64 rn, .float .f64 rx, .string ⟨rt.toArray⟩, .bool ry][o]? := fun o => by
              rw [hz]; exact World.cell?_alloc_at _ _ _ _ rfl
            have hsz1 : wr.heap.size < (wr.alloc (.cells #[.string ⟨nm.toArray⟩, .int .i64 vk, .int .i64 vn, .float .f64 vx, .string ⟨vt.toArray⟩, .bool vy] 32)).heap.size := by simp
            have q := fun o => hb1.cell (p := ⟨wr.heap.size, o, none⟩) hsz1
            exact ⟨(hb2.cell (p := ⟨be, 0, none⟩) hbey).trans f0, (hb2.cell (p := ⟨be, 1, none⟩) hbey).trans f1, (q 0).trans b0, (q 1).trans b1, (q 2).trans b2, (q 3).trans b3, (q 4).trans b4, (q 5).trans b5, (hb2.cell (p := pp) hpb).trans hpc, p 0, p 1, p 2, p 3, p 4, by simp; omega, by simp; omega, by simp; omega, by simp, btrans hwy hb2⟩
          have HST := Lib.hid hst
          have HATY := Lib.hid (HAT.out.below hwy)
          clear e0 e1 f0 f1 hbx hpc hst
          go_upto_region 18 with fail
          clear v0 v1 v2 v3 v4 v5 hlook hbey hpb hwy
          generalize World.alloc (World.alloc wr _) _ = W5 at *
          generalize wr.heap.size + 1 = bv at *
          generalize wr.heap.size = bx at *
          have hn5 : (fun w' => w'.cell? ⟨be, 0, none⟩ = some (.string ⟨t.toArray⟩) ∧ w'.cell? ⟨be, 1, none⟩ = some (.slice (some a) nb.length cp) ∧ w'.cell? ⟨bx, 0, none⟩ = some (.string ⟨nm.toArray⟩) ∧ w'.cell? ⟨bx, 1, none⟩ = some (.int .i64 vk) ∧ w'.cell? ⟨bx, 2, none⟩ = some (.int .i64 vn) ∧ w'.cell? ⟨bx, 3, none⟩ = some (.float .f64 vx) ∧ w'.cell? ⟨bx, 4, none⟩ = some (.string ⟨vt.toArray⟩) ∧ w'.cell? ⟨bx, 5, none⟩ = some (.bool vy) ∧ w'.cell? pp = some (.string ⟨pn.toArray⟩) ∧ w'.cell? ⟨bv, 0, none⟩ = some (.int .i64 rk) ∧ w'.cell? ⟨bv, 1, none⟩ = some (.int .i64 rn) ∧ w'.cell? ⟨bv, 2, none⟩ = some (.float .f64 rx) ∧ w'.cell? ⟨bv, 3, none⟩ = some (.string ⟨rt.toArray⟩) ∧ w'.cell? ⟨bv, 4, none⟩ = some (.bool ry) ∧ be < w'.heap.size ∧ bx < w'.heap.size ∧ pp.block < w'.heap.size ∧ bv < w'.heap.size ∧ Below WE.heap.size WE w') W5 := HST.out
          have HN5 := Lib.hid hn5
          clear hn5 HST HATY
          go_cut [97] (fun v wx => Hid ((fun w' => w'.cell? ⟨be, 0, none⟩ = some (.string ⟨t.toArray⟩) ∧ w'.cell? ⟨be, 1, none⟩ = some (.slice (some a) nb.length cp) ∧ w'.cell? ⟨bx, 0, none⟩ = some (.string ⟨nm.toArray⟩) ∧ w'.cell? ⟨bx, 1, none⟩ = some (.int .i64 vk) ∧ w'.cell? ⟨bx, 2, none⟩ = some (.int .i64 vn) ∧ w'.cell? ⟨bx, 3, none⟩ = some (.float .f64 vx) ∧ w'.cell? ⟨bx, 4, none⟩ = some (.string ⟨vt.toArray⟩) ∧ w'.cell? ⟨bx, 5, none⟩ = some (.bool vy) ∧ w'.cell? pp = some (.string ⟨pn.toArray⟩) ∧ w'.cell? ⟨bv, 0, none⟩ = some (.int .i64 rk) ∧ w'.cell? ⟨bv, 1, none⟩ = some (.int .i64 rn) ∧ w'.cell? ⟨bv, 2, none⟩ = some (.float .f64 rx) ∧ w'.cell? ⟨bv, 3, none⟩ = some (.string ⟨rt.toArray⟩) ∧ w'.cell? ⟨bv, 4, none⟩ = some (.bool ry) ∧ be < w'.heap.size ∧ bx < w'.heap.size ∧ pp.block < w'.heap.size ∧ bv < w'.heap.size ∧ Below WE.heap.size WE w') wx) ∧ v = .bool false)
          case first => as_aux_lemma =>
            rcases HWAY.out with rfl | ⟨j, rfl, rfl, hbl⟩
            · clear HWAY
              refine wp_region_held_drew (S := (fun w' => w'.cell? ⟨be, 0, none⟩ = some (.string ⟨t.toArray⟩) ∧ w'.cell? ⟨be, 1, none⟩ = some (.slice (some a) nb.length cp) ∧ w'.cell? ⟨bx, 0, none⟩ = some (.string ⟨nm.toArray⟩) ∧ w'.cell? ⟨bx, 1, none⟩ = some (.int .i64 vk) ∧ w'.cell? ⟨bx, 2, none⟩ = some (.int .i64 vn) ∧ w'.cell? ⟨bx, 3, none⟩ = some (.float .f64 vx) ∧ w'.cell? ⟨bx, 4, none⟩ = some (.string ⟨vt.toArray⟩) ∧ w'.cell? ⟨bx, 5, none⟩ = some (.bool vy) ∧ w'.cell? pp = some (.string ⟨pn.toArray⟩) ∧ w'.cell? ⟨bv, 0, none⟩ = some (.int .i64 rk) ∧ w'.cell? ⟨bv, 1, none⟩ = some (.int .i64 rn) ∧ w'.cell? ⟨bv, 2, none⟩ = some (.float .f64 rx) ∧ w'.cell? ⟨bv, 3, none⟩ = some (.string ⟨rt.toArray⟩) ∧ w'.cell? ⟨bv, 4, none⟩ = some (.bool ry) ∧ be < w'.heap.size ∧ bx < w'.heap.size ∧ pp.block < w'.heap.size ∧ bv < w'.heap.size ∧ Below WE.heap.size WE w')) (by kernel_rfl) ?_ (fun hq0 => ?_)
              · ((try dsimp only); (first | exact HN5.out | exact nsg_below (bdrewN (Below.refl _ _) 1) HN5.out | assumption | exact nsg_below (by assumption) (by assumption)))
              first | (refine wpAnyH_take (i := 0) (oi := ?_) (v := ?_) ?_ (by kernel_rfl) (by kernel_rfl) (by kernel_rfl) ?_ (Or.inl ⟨?_, ?_⟩) (by assumption) ?_; rotate_left 2; (· (simp only [List.getElem?_toArray, List.getElem?_cons_zero]; first | done | rfl)); (· exact (fun _ _ _ h => h)); (· rfl); (· (intro w hSw; (try dsimp only at hSw); go_simp; (try with_reducible rfl)))) | (refine wpAnyH_take (i := 0) (oi := ?_) (v := ?_) ?_ (by kernel_rfl) (by kernel_rfl) (by kernel_rfl) ?_ (Or.inr ⟨?_, ?_⟩) (by assumption) ?_; rotate_left 2; (· (simp only [List.getElem?_toArray, List.getElem?_cons_zero]; first | done | rfl)); (· exact (fun _ _ _ h => h)); (· rfl); (· rfl)) | fail
              (try simp only [Act.put, List.setIfInBounds_toArray, List.set_cons_zero, List.set_cons_succ])
              first | (refine wpAnyH_take (i := 1) (oi := ?_) (v := ?_) ?_ (by kernel_rfl) (by kernel_rfl) (by kernel_rfl) ?_ (Or.inl ⟨?_, ?_⟩) (by assumption) ?_; rotate_left 2; (· (simp only [List.getElem?_toArray, List.getElem?_cons_succ, List.getElem?_cons_zero]; first | done | rfl)); (· exact (fun _ _ _ h => h)); (· rfl); (· (intro w hSw; (try dsimp only at hSw); go_simp; (try with_reducible rfl)))) | (refine wpAnyH_take (i := 1) (oi := ?_) (v := ?_) ?_ (by kernel_rfl) (by kernel_rfl) (by kernel_rfl) ?_ (Or.inr ⟨?_, ?_⟩) (by assumption) ?_; rotate_left 2; (· (simp only [List.getElem?_toArray, List.getElem?_cons_succ, List.getElem?_cons_zero]; first | done | rfl)); (· exact (fun _ _ _ h => h)); (· rfl); (· rfl)) | fail
              (try simp only [Act.put, List.setIfInBounds_toArray, List.set_cons_zero, List.set_cons_succ])
              first | (refine wpAnyH_take (i := 2) (oi := ?_) (v := ?_) ?_ (by kernel_rfl) (by kernel_rfl) (by kernel_rfl) ?_ (Or.inl ⟨?_, ?_⟩) (by assumption) ?_; rotate_left 2; (· (simp only [List.getElem?_toArray, List.getElem?_cons_succ, List.getElem?_cons_zero]; first | done | rfl)); (· exact (fun _ _ _ h => h)); (· rfl); (· (intro w hSw; (try dsimp only at hSw); go_simp; (try with_reducible rfl)))) | (refine wpAnyH_take (i := 2) (oi := ?_) (v := ?_) ?_ (by kernel_rfl) (by kernel_rfl) (by kernel_rfl) ?_ (Or.inr ⟨?_, ?_⟩) (by assumption) ?_; rotate_left 2; (· (simp only [List.getElem?_toArray, List.getElem?_cons_succ, List.getElem?_cons_zero]; first | done | rfl)); (· exact (fun _ _ _ h => h)); (· rfl); (· rfl)) | fail
              (try simp only [Act.put, List.setIfInBounds_toArray, List.set_cons_zero, List.set_cons_succ])
              first | (refine wpAnyH_take (i := 3) (oi := ?_) (v := ?_) ?_ (by kernel_rfl) (by kernel_rfl) (by kernel_rfl) ?_ (Or.inl ⟨?_, ?_⟩) (by assumption) ?_; rotate_left 2; (· (simp only [List.getElem?_toArray, List.getElem?_cons_succ, List.getElem?_cons_zero]; first | done | rfl)); (· exact (fun _ _ _ h => h)); (· rfl); (· (intro w hSw; (try dsimp only at hSw); go_simp; (try with_reducible rfl)))) | (refine wpAnyH_take (i := 3) (oi := ?_) (v := ?_) ?_ (by kernel_rfl) (by kernel_rfl) (by kernel_rfl) ?_ (Or.inr ⟨?_, ?_⟩) (by assumption) ?_; rotate_left 2; (· (simp only [List.getElem?_toArray, List.getElem?_cons_succ, List.getElem?_cons_zero]; first | done | rfl)); (· exact (fun _ _ _ h => h)); (· rfl); (· rfl)) | fail
              (try simp only [Act.put, List.setIfInBounds_toArray, List.set_cons_zero, List.set_cons_succ])
              first | (refine wpAnyH_take (i := 5) (oi := ?_) (v := ?_) ?_ (by kernel_rfl) (by kernel_rfl) (by kernel_rfl) ?_ (Or.inl ⟨?_, ?_⟩) (by assumption) ?_; rotate_left 2; (· (simp only [List.getElem?_toArray, List.getElem?_cons_succ, List.getElem?_cons_zero]; first | done | rfl)); (· exact (fun _ _ _ h => h)); (· rfl); (· (intro w hSw; (try dsimp only at hSw); go_simp; (try with_reducible rfl)))) | (refine wpAnyH_take (i := 5) (oi := ?_) (v := ?_) ?_ (by kernel_rfl) (by kernel_rfl) (by kernel_rfl) ?_ (Or.inr ⟨?_, ?_⟩) (by assumption) ?_; rotate_left 2; (· (simp only [List.getElem?_toArray, List.getElem?_cons_succ, List.getElem?_cons_zero]; first | done | rfl)); (· exact (fun _ _ _ h => h)); (· rfl); (· rfl)) | fail
              (try simp only [Act.put, List.setIfInBounds_toArray, List.set_cons_zero, List.set_cons_succ])
              first | (refine wpAnyH_take (i := 6) (oi := ?_) (v := ?_) ?_ (by kernel_rfl) (by kernel_rfl) (by kernel_rfl) ?_ (Or.inl ⟨?_, ?_⟩) (by assumption) ?_; rotate_left 2; (· (simp only [List.getElem?_toArray, List.getElem?_cons_succ, List.getElem?_cons_zero]; first | done | rfl)); (· exact (fun _ _ _ h => h)); (· rfl); (· (intro w hSw; (try dsimp only at hSw); go_simp; (try with_reducible rfl)))) | (refine wpAnyH_take (i := 6) (oi := ?_) (v := ?_) ?_ (by kernel_rfl) (by kernel_rfl) (by kernel_rfl) ?_ (Or.inr ⟨?_, ?_⟩) (by assumption) ?_; rotate_left 2; (· (simp only [List.getElem?_toArray, List.getElem?_cons_succ, List.getElem?_cons_zero]; first | done | rfl)); (· exact (fun _ _ _ h => h)); (· rfl); (· rfl)) | fail
              (try simp only [Act.put, List.setIfInBounds_toArray, List.set_cons_zero, List.set_cons_succ])
              refine wpAnyH_ready (rs := [4]) (by kernel_rfl) (by simp) ?_
              refine AllReadyH.cons (o := ?_) ?_ (fun K hK => ?_) AllReadyH.nil
              rotate_left 1
              · (simp only [List.getElem?_toArray, List.getElem?_cons_succ, List.getElem?_cons_zero]; first | done | rfl)
              go_simp
              first | (refine hK.out _ _ ?_ (fun hq1 => ?_)) | ((first | (go_at_call 23; refine (HCN.out _).mono ?_; rintro e w5 ⟨rfl, hb5⟩) | (go_at_call 22; refine (HSM.out _).mono ?_; rintro e w6 ⟨rfl, hb6⟩)); refine hK.out _ _ ?_ (fun hq1 => ?_)) | ((first | (go_at_call 23; refine (HCN.out _).mono ?_; rintro e w5 ⟨rfl, hb5⟩) | (go_at_call 22; refine (HSM.out _).mono ?_; rintro e w6 ⟨rfl, hb6⟩)); go_wp2_with fail; refine hK.out _ _ ?_ (fun hq1 => ?_)) | fail
              · ((try dsimp only); (first | exact HN5.out | exact nsg_below (bdrewN (Below.refl _ _) 1) HN5.out | assumption | exact nsg_below (by assumption) (by assumption)))
              clear hK K
              (try simp only [Act.put, List.setIfInBounds_toArray, List.set_cons_zero, List.set_cons_succ])
              clear hq0
              refine wpAnyH_ready (rs := [7]) (by kernel_rfl) (by simp) ?_
              refine AllReadyH.cons (o := ?_) ?_ (fun K hK => ?_) AllReadyH.nil
              rotate_left 1
              · (simp only [List.getElem?_toArray, List.getElem?_cons_succ, List.getElem?_cons_zero]; first | done | rfl)
              go_simp
              first | (refine hK.out _ _ ?_ (fun hq2 => ?_)) | ((first | (go_at_call 23; refine (HCN.out _).mono ?_; rintro e w5 ⟨rfl, hb5⟩) | (go_at_call 22; refine (HSM.out _).mono ?_; rintro e w6 ⟨rfl, hb6⟩)); refine hK.out _ _ ?_ (fun hq2 => ?_)) | ((first | (go_at_call 23; refine (HCN.out _).mono ?_; rintro e w5 ⟨rfl, hb5⟩) | (go_at_call 22; refine (HSM.out _).mono ?_; rintro e w6 ⟨rfl, hb6⟩)); go_wp2_with fail; refine hK.out _ _ ?_ (fun hq2 => ?_)) | fail
              · ((try dsimp only); (first | exact HN5.out | exact nsg_below (bdrewN (Below.refl _ _) 1) HN5.out | assumption | exact nsg_below (by assumption) (by assumption)))
              clear hK K
              (try simp only [Act.put, List.setIfInBounds_toArray, List.set_cons_zero, List.set_cons_succ])
              clear hq1
              first | (refine wpAnyH_take (i := 8) (oi := ?_) (v := ?_) ?_ (by kernel_rfl) (by kernel_rfl) (by kernel_rfl) ?_ (Or.inl ⟨?_, ?_⟩) (by assumption) ?_; rotate_left 2; (· (simp only [List.getElem?_toArray, List.getElem?_cons_succ, List.getElem?_cons_zero]; first | done | rfl)); (· exact (fun _ _ _ h => h)); (· rfl); (· (intro w hSw; (try dsimp only at hSw); go_simp; (try with_reducible rfl)))) | (refine wpAnyH_take (i := 8) (oi := ?_) (v := ?_) ?_ (by kernel_rfl) (by kernel_rfl) (by kernel_rfl) ?_ (Or.inr ⟨?_, ?_⟩) (by assumption) ?_; rotate_left 2; (· (simp only [List.getElem?_toArray, List.getElem?_cons_succ, List.getElem?_cons_zero]; first | done | rfl)); (· exact (fun _ _ _ h => h)); (· rfl); (· rfl)) | fail
              (try simp only [Act.put, List.setIfInBounds_toArray, List.set_cons_zero, List.set_cons_succ])
              first | (refine wpAnyH_take (i := 9) (oi := ?_) (v := ?_) ?_ (by kernel_rfl) (by kernel_rfl) (by kernel_rfl) ?_ (Or.inl ⟨?_, ?_⟩) (by assumption) ?_; rotate_left 2; (· (simp only [List.getElem?_toArray, List.getElem?_cons_succ, List.getElem?_cons_zero]; first | done | rfl)); (· exact (fun _ _ _ h => h)); (· rfl); (· (intro w hSw; (try dsimp only at hSw); go_simp; (try with_reducible rfl)))) | (refine wpAnyH_take (i := 9) (oi := ?_) (v := ?_) ?_ (by kernel_rfl) (by kernel_rfl) (by kernel_rfl) ?_ (Or.inr ⟨?_, ?_⟩) (by assumption) ?_; rotate_left 2; (· (simp only [List.getElem?_toArray, List.getElem?_cons_succ, List.getElem?_cons_zero]; first | done | rfl)); (· exact (fun _ _ _ h => h)); (· rfl); (· rfl)) | fail
              (try simp only [Act.put, List.setIfInBounds_toArray, List.set_cons_zero, List.set_cons_succ])
              first | (refine wpAnyH_take (i := 10) (oi := ?_) (v := ?_) ?_ (by kernel_rfl) (by kernel_rfl) (by kernel_rfl) ?_ (Or.inl ⟨?_, ?_⟩) (by assumption) ?_; rotate_left 2; (· (simp only [List.getElem?_toArray, List.getElem?_cons_succ, List.getElem?_cons_zero]; first | done | rfl)); (· exact (fun _ _ _ h => h)); (· rfl); (· (intro w hSw; (try dsimp only at hSw); go_simp; (try with_reducible rfl)))) | (refine wpAnyH_take (i := 10) (oi := ?_) (v := ?_) ?_ (by kernel_rfl) (by kernel_rfl) (by kernel_rfl) ?_ (Or.inr ⟨?_, ?_⟩) (by assumption) ?_; rotate_left 2; (· (simp only [List.getElem?_toArray, List.getElem?_cons_succ, List.getElem?_cons_zero]; first | done | rfl)); (· exact (fun _ _ _ h => h)); (· rfl); (· rfl)) | fail
              (try simp only [Act.put, List.setIfInBounds_toArray, List.set_cons_zero, List.set_cons_succ])
              first | (refine wpAnyH_take (i := 11) (oi := ?_) (v := ?_) ?_ (by kernel_rfl) (by kernel_rfl) (by kernel_rfl) ?_ (Or.inl ⟨?_, ?_⟩) (by assumption) ?_; rotate_left 2; (· (simp only [List.getElem?_toArray, List.getElem?_cons_succ, List.getElem?_cons_zero]; first | done | rfl)); (· exact (fun _ _ _ h => h)); (· rfl); (· (intro w hSw; (try dsimp only at hSw); go_simp; (try with_reducible rfl)))) | (refine wpAnyH_take (i := 11) (oi := ?_) (v := ?_) ?_ (by kernel_rfl) (by kernel_rfl) (by kernel_rfl) ?_ (Or.inr ⟨?_, ?_⟩) (by assumption) ?_; rotate_left 2; (· (simp only [List.getElem?_toArray, List.getElem?_cons_succ, List.getElem?_cons_zero]; first | done | rfl)); (· exact (fun _ _ _ h => h)); (· rfl); (· rfl)) | fail
              (try simp only [Act.put, List.setIfInBounds_toArray, List.set_cons_zero, List.set_cons_succ])
              first | (refine wpAnyH_take (i := 12) (oi := ?_) (v := ?_) ?_ (by kernel_rfl) (by kernel_rfl) (by kernel_rfl) ?_ (Or.inl ⟨?_, ?_⟩) (by assumption) ?_; rotate_left 2; (· (simp only [List.getElem?_toArray, List.getElem?_cons_succ, List.getElem?_cons_zero]; first | done | rfl)); (· exact (fun _ _ _ h => h)); (· rfl); (· (intro w hSw; (try dsimp only at hSw); go_simp; (try with_reducible rfl)))) | (refine wpAnyH_take (i := 12) (oi := ?_) (v := ?_) ?_ (by kernel_rfl) (by kernel_rfl) (by kernel_rfl) ?_ (Or.inr ⟨?_, ?_⟩) (by assumption) ?_; rotate_left 2; (· (simp only [List.getElem?_toArray, List.getElem?_cons_succ, List.getElem?_cons_zero]; first | done | rfl)); (· exact (fun _ _ _ h => h)); (· rfl); (· rfl)) | fail
              (try simp only [Act.put, List.setIfInBounds_toArray, List.set_cons_zero, List.set_cons_succ])
              first | (refine wpAnyH_take (i := 13) (oi := ?_) (v := ?_) ?_ (by kernel_rfl) (by kernel_rfl) (by kernel_rfl) ?_ (Or.inl ⟨?_, ?_⟩) (by assumption) ?_; rotate_left 2; (· (simp only [List.getElem?_toArray, List.getElem?_cons_succ, List.getElem?_cons_zero]; first | done | rfl)); (· exact (fun _ _ _ h => h)); (· rfl); (· (intro w hSw; (try dsimp only at hSw); go_simp; (try with_reducible rfl)))) | (refine wpAnyH_take (i := 13) (oi := ?_) (v := ?_) ?_ (by kernel_rfl) (by kernel_rfl) (by kernel_rfl) ?_ (Or.inr ⟨?_, ?_⟩) (by assumption) ?_; rotate_left 2; (· (simp only [List.getElem?_toArray, List.getElem?_cons_succ, List.getElem?_cons_zero]; first | done | rfl)); (· exact (fun _ _ _ h => h)); (· rfl); (· rfl)) | fail
              (try simp only [Act.put, List.setIfInBounds_toArray, List.set_cons_zero, List.set_cons_succ])
              first | (refine wpAnyH_take (i := 14) (oi := ?_) (v := ?_) ?_ (by kernel_rfl) (by kernel_rfl) (by kernel_rfl) ?_ (Or.inl ⟨?_, ?_⟩) (by assumption) ?_; rotate_left 2; (· (simp only [List.getElem?_toArray, List.getElem?_cons_succ, List.getElem?_cons_zero]; first | done | rfl)); (· exact (fun _ _ _ h => h)); (· rfl); (· (intro w hSw; (try dsimp only at hSw); go_simp; (try with_reducible rfl)))) | (refine wpAnyH_take (i := 14) (oi := ?_) (v := ?_) ?_ (by kernel_rfl) (by kernel_rfl) (by kernel_rfl) ?_ (Or.inr ⟨?_, ?_⟩) (by assumption) ?_; rotate_left 2; (· (simp only [List.getElem?_toArray, List.getElem?_cons_succ, List.getElem?_cons_zero]; first | done | rfl)); (· exact (fun _ _ _ h => h)); (· rfl); (· rfl)) | fail
              (try simp only [Act.put, List.setIfInBounds_toArray, List.set_cons_zero, List.set_cons_succ])
              first | (refine wpAnyH_take (i := 15) (oi := ?_) (v := ?_) ?_ (by kernel_rfl) (by kernel_rfl) (by kernel_rfl) ?_ (Or.inl ⟨?_, ?_⟩) (by assumption) ?_; rotate_left 2; (· (simp only [List.getElem?_toArray, List.getElem?_cons_succ, List.getElem?_cons_zero]; first | done | rfl)); (· exact (fun _ _ _ h => h)); (· rfl); (· (intro w hSw; (try dsimp only at hSw); go_simp; (try with_reducible rfl)))) | (refine wpAnyH_take (i := 15) (oi := ?_) (v := ?_) ?_ (by kernel_rfl) (by kernel_rfl) (by kernel_rfl) ?_ (Or.inr ⟨?_, ?_⟩) (by assumption) ?_; rotate_left 2; (· (simp only [List.getElem?_toArray, List.getElem?_cons_succ, List.getElem?_cons_zero]; first | done | rfl)); (· exact (fun _ _ _ h => h)); (· rfl); (· rfl)) | fail
              (try simp only [Act.put, List.setIfInBounds_toArray, List.set_cons_zero, List.set_cons_succ])
              first | (refine wpAnyH_take (i := 16) (oi := ?_) (v := ?_) ?_ (by kernel_rfl) (by kernel_rfl) (by kernel_rfl) ?_ (Or.inl ⟨?_, ?_⟩) (by assumption) ?_; rotate_left 2; (· (simp only [List.getElem?_toArray, List.getElem?_cons_succ, List.getElem?_cons_zero]; first | done | rfl)); (· exact (fun _ _ _ h => h)); (· rfl); (· (intro w hSw; (try dsimp only at hSw); go_simp; (try with_reducible rfl)))) | (refine wpAnyH_take (i := 16) (oi := ?_) (v := ?_) ?_ (by kernel_rfl) (by kernel_rfl) (by kernel_rfl) ?_ (Or.inr ⟨?_, ?_⟩) (by assumption) ?_; rotate_left 2; (· (simp only [List.getElem?_toArray, List.getElem?_cons_succ, List.getElem?_cons_zero]; first | done | rfl)); (· exact (fun _ _ _ h => h)); (· rfl); (· rfl)) | fail
              (try simp only [Act.put, List.setIfInBounds_toArray, List.set_cons_zero, List.set_cons_succ])
              first | (refine wpAnyH_take (i := 17) (oi := ?_) (v := ?_) ?_ (by kernel_rfl) (by kernel_rfl) (by kernel_rfl) ?_ (Or.inl ⟨?_, ?_⟩) (by assumption) ?_; rotate_left 2; (· (simp only [List.getElem?_toArray, List.getElem?_cons_succ, List.getElem?_cons_zero]; first | done | rfl)); (· exact (fun _ _ _ h => h)); (· rfl); (· (intro w hSw; (try dsimp only at hSw); go_simp; (try with_reducible rfl)))) | (refine wpAnyH_take (i := 17) (oi := ?_) (v := ?_) ?_ (by kernel_rfl) (by kernel_rfl) (by kernel_rfl) ?_ (Or.inr ⟨?_, ?_⟩) (by assumption) ?_; rotate_left 2; (· (simp only [List.getElem?_toArray, List.getElem?_cons_succ, List.getElem?_cons_zero]; first | done | rfl)); (· exact (fun _ _ _ h => h)); (· rfl); (· rfl)) | fail
              (try simp only [Act.put, List.setIfInBounds_toArray, List.set_cons_zero, List.set_cons_succ])
              first | (refine wpAnyH_take (i := 18) (oi := ?_) (v := ?_) ?_ (by kernel_rfl) (by kernel_rfl) (by kernel_rfl) ?_ (Or.inl ⟨?_, ?_⟩) (by assumption) ?_; rotate_left 2; (· (simp only [List.getElem?_toArray, List.getElem?_cons_succ, List.getElem?_cons_zero]; first | done | rfl)); (· exact (fun _ _ _ h => h)); (· rfl); (· (intro w hSw; (try dsimp only at hSw); go_simp; (try with_reducible rfl)))) | (refine wpAnyH_take (i := 18) (oi := ?_) (v := ?_) ?_ (by kernel_rfl) (by kernel_rfl) (by kernel_rfl) ?_ (Or.inr ⟨?_, ?_⟩) (by assumption) ?_; rotate_left 2; (· (simp only [List.getElem?_toArray, List.getElem?_cons_succ, List.getElem?_cons_zero]; first | done | rfl)); (· exact (fun _ _ _ h => h)); (· rfl); (· rfl)) | fail
              (try simp only [Act.put, List.setIfInBounds_toArray, List.set_cons_zero, List.set_cons_succ])
              first | (refine wpAnyH_take (i := 19) (oi := ?_) (v := ?_) ?_ (by kernel_rfl) (by kernel_rfl) (by kernel_rfl) ?_ (Or.inl ⟨?_, ?_⟩) (by assumption) ?_; rotate_left 2; (· (simp only [List.getElem?_toArray, List.getElem?_cons_succ, List.getElem?_cons_zero]; first | done | rfl)); (· exact (fun _ _ _ h => h)); (· rfl); (· (intro w hSw; (try dsimp only at hSw); go_simp; (try with_reducible rfl)))) | (refine wpAnyH_take (i := 19) (oi := ?_) (v := ?_) ?_ (by kernel_rfl) (by kernel_rfl) (by kernel_rfl) ?_ (Or.inr ⟨?_, ?_⟩) (by assumption) ?_; rotate_left 2; (· (simp only [List.getElem?_toArray, List.getElem?_cons_succ, List.getElem?_cons_zero]; first | done | rfl)); (· exact (fun _ _ _ h => h)); (· rfl); (· rfl)) | fail
              (try simp only [Act.put, List.setIfInBounds_toArray, List.set_cons_zero, List.set_cons_succ])
              first | (refine wpAnyH_take (i := 20) (oi := ?_) (v := ?_) ?_ (by kernel_rfl) (by kernel_rfl) (by kernel_rfl) ?_ (Or.inl ⟨?_, ?_⟩) (by assumption) ?_; rotate_left 2; (· (simp only [List.getElem?_toArray, List.getElem?_cons_succ, List.getElem?_cons_zero]; first | done | rfl)); (· exact (fun _ _ _ h => h)); (· rfl); (· (intro w hSw; (try dsimp only at hSw); go_simp; (try with_reducible rfl)))) | (refine wpAnyH_take (i := 20) (oi := ?_) (v := ?_) ?_ (by kernel_rfl) (by kernel_rfl) (by kernel_rfl) ?_ (Or.inr ⟨?_, ?_⟩) (by assumption) ?_; rotate_left 2; (· (simp only [List.getElem?_toArray, List.getElem?_cons_succ, List.getElem?_cons_zero]; first | done | rfl)); (· exact (fun _ _ _ h => h)); (· rfl); (· rfl)) | fail
              (try simp only [Act.put, List.setIfInBounds_toArray, List.set_cons_zero, List.set_cons_succ])
              first | (refine wpAnyH_take (i := 21) (oi := ?_) (v := ?_) ?_ (by kernel_rfl) (by kernel_rfl) (by kernel_rfl) ?_ (Or.inl ⟨?_, ?_⟩) (by assumption) ?_; rotate_left 2; (· (simp only [List.getElem?_toArray, List.getElem?_cons_succ, List.getElem?_cons_zero]; first | done | rfl)); (· exact (fun _ _ _ h => h)); (· rfl); (· (intro w hSw; (try dsimp only at hSw); go_simp; (try with_reducible rfl)))) | (refine wpAnyH_take (i := 21) (oi := ?_) (v := ?_) ?_ (by kernel_rfl) (by kernel_rfl) (by kernel_rfl) ?_ (Or.inr ⟨?_, ?_⟩) (by assumption) ?_; rotate_left 2; (· (simp only [List.getElem?_toArray, List.getElem?_cons_succ, List.getElem?_cons_zero]; first | done | rfl)); (· exact (fun _ _ _ h => h)); (· rfl); (· rfl)) | fail
              (try simp only [Act.put, List.setIfInBounds_toArray, List.set_cons_zero, List.set_cons_succ])
              first | (refine wpAnyH_take (i := 22) (oi := ?_) (v := ?_) ?_ (by kernel_rfl) (by kernel_rfl) (by kernel_rfl) ?_ (Or.inl ⟨?_, ?_⟩) (by assumption) ?_; rotate_left 2; (· (simp only [List.getElem?_toArray, List.getElem?_cons_succ, List.getElem?_cons_zero]; first | done | rfl)); (· exact (fun _ _ _ h => h)); (· rfl); (· (intro w hSw; (try dsimp only at hSw); go_simp; (try with_reducible rfl)))) | (refine wpAnyH_take (i := 22) (oi := ?_) (v := ?_) ?_ (by kernel_rfl) (by kernel_rfl) (by kernel_rfl) ?_ (Or.inr ⟨?_, ?_⟩) (by assumption) ?_; rotate_left 2; (· (simp only [List.getElem?_toArray, List.getElem?_cons_succ, List.getElem?_cons_zero]; first | done | rfl)); (· exact (fun _ _ _ h => h)); (· rfl); (· rfl)) | fail
              (try simp only [Act.put, List.setIfInBounds_toArray, List.set_cons_zero, List.set_cons_succ])
              first | (refine wpAnyH_take (i := 23) (oi := ?_) (v := ?_) ?_ (by kernel_rfl) (by kernel_rfl) (by kernel_rfl) ?_ (Or.inl ⟨?_, ?_⟩) (by assumption) ?_; rotate_left 2; (· (simp only [List.getElem?_toArray, List.getElem?_cons_succ, List.getElem?_cons_zero]; first | done | rfl)); (· exact (fun _ _ _ h => h)); (· rfl); (· (intro w hSw; (try dsimp only at hSw); go_simp; (try with_reducible rfl)))) | (refine wpAnyH_take (i := 23) (oi := ?_) (v := ?_) ?_ (by kernel_rfl) (by kernel_rfl) (by kernel_rfl) ?_ (Or.inr ⟨?_, ?_⟩) (by assumption) ?_; rotate_left 2; (· (simp only [List.getElem?_toArray, List.getElem?_cons_succ, List.getElem?_cons_zero]; first | done | rfl)); (· exact (fun _ _ _ h => h)); (· rfl); (· rfl)) | fail
              (try simp only [Act.put, List.setIfInBounds_toArray, List.set_cons_zero, List.set_cons_succ])
              first | (refine wpAnyH_take (i := 24) (oi := ?_) (v := ?_) ?_ (by kernel_rfl) (by kernel_rfl) (by kernel_rfl) ?_ (Or.inl ⟨?_, ?_⟩) (by assumption) ?_; rotate_left 2; (· (simp only [List.getElem?_toArray, List.getElem?_cons_succ, List.getElem?_cons_zero]; first | done | rfl)); (· exact (fun _ _ _ h => h)); (· rfl); (· (intro w hSw; (try dsimp only at hSw); go_simp; (try with_reducible rfl)))) | (refine wpAnyH_take (i := 24) (oi := ?_) (v := ?_) ?_ (by kernel_rfl) (by kernel_rfl) (by kernel_rfl) ?_ (Or.inr ⟨?_, ?_⟩) (by assumption) ?_; rotate_left 2; (· (simp only [List.getElem?_toArray, List.getElem?_cons_succ, List.getElem?_cons_zero]; first | done | rfl)); (· exact (fun _ _ _ h => h)); (· rfl); (· rfl)) | fail
              (try simp only [Act.put, List.setIfInBounds_toArray, List.set_cons_zero, List.set_cons_succ])
              first | (refine wpAnyH_take (i := 25) (oi := ?_) (v := ?_) ?_ (by kernel_rfl) (by kernel_rfl) (by kernel_rfl) ?_ (Or.inl ⟨?_, ?_⟩) (by assumption) ?_; rotate_left 2; (· (simp only [List.getElem?_toArray, List.getElem?_cons_succ, List.getElem?_cons_zero]; first | done | rfl)); (· exact (fun _ _ _ h => h)); (· rfl); (· (intro w hSw; (try dsimp only at hSw); go_simp; (try with_reducible rfl)))) | (refine wpAnyH_take (i := 25) (oi := ?_) (v := ?_) ?_ (by kernel_rfl) (by kernel_rfl) (by kernel_rfl) ?_ (Or.inr ⟨?_, ?_⟩) (by assumption) ?_; rotate_left 2; (· (simp only [List.getElem?_toArray, List.getElem?_cons_succ, List.getElem?_cons_zero]; first | done | rfl)); (· exact (fun _ _ _ h => h)); (· rfl); (· rfl)) | fail
              (try simp only [Act.put, List.setIfInBounds_toArray, List.set_cons_zero, List.set_cons_succ])
              refine wpAnyH_done (by kernel_rfl) ?_ _
              go_wp2_with fail
              go_meet
              exact ⟨Lib.hid (by assumption), rfl⟩
            · have j0 : (0 : Int) ≤ (j : Int) := by omega
              have j1 : (j : Int) < (nb.length : Int) := by omega
              have j2 : (0 : Int) < (j : Int) + 1 := by omega
              have j3 : IntKind.i64.wrap ((j : Int) + 1 - 1) = (j : Int) := by rw [IntKind.wrap_i64]; omega
              have j4 : IntKind.i64.wrap (j : Int) = (j : Int) := by rw [IntKind.wrap_i64]; omega
              clear HWAY
              refine wp_region_held_drew (S := (fun w' => w'.cell? ⟨be, 0, none⟩ = some (.string ⟨t.toArray⟩) ∧ w'.cell? ⟨be, 1, none⟩ = some (.slice (some a) nb.length cp) ∧ w'.cell? ⟨bx, 0, none⟩ = some (.string ⟨nm.toArray⟩) ∧ w'.cell? ⟨bx, 1, none⟩ = some (.int .i64 vk) ∧ w'.cell? ⟨bx, 2, none⟩ = some (.int .i64 vn) ∧ w'.cell? ⟨bx, 3, none⟩ = some (.float .f64 vx) ∧ w'.cell? ⟨bx, 4, none⟩ = some (.string ⟨vt.toArray⟩) ∧ w'.cell? ⟨bx, 5, none⟩ = some (.bool vy) ∧ w'.cell? (a.add (j * 6)) = some (.string ⟨pn.toArray⟩) ∧ w'.cell? ⟨bv, 0, none⟩ = some (.int .i64 rk) ∧ w'.cell? ⟨bv, 1, none⟩ = some (.int .i64 rn) ∧ w'.cell? ⟨bv, 2, none⟩ = some (.float .f64 rx) ∧ w'.cell? ⟨bv, 3, none⟩ = some (.string ⟨rt.toArray⟩) ∧ w'.cell? ⟨bv, 4, none⟩ = some (.bool ry) ∧ be < w'.heap.size ∧ bx < w'.heap.size ∧ (a.add (j * 6)).block < w'.heap.size ∧ bv < w'.heap.size ∧ Below WE.heap.size WE w')) (by kernel_rfl) ?_ (fun hq0 => ?_)
              · ((try dsimp only); (first | exact HN5.out | exact nsg_below (bdrewN (Below.refl _ _) 1) HN5.out | assumption | exact nsg_below (by assumption) (by assumption)))
              first | (refine wpAnyH_take (i := 0) (oi := ?_) (v := ?_) ?_ (by kernel_rfl) (by kernel_rfl) (by kernel_rfl) ?_ (Or.inl ⟨?_, ?_⟩) (by assumption) ?_; rotate_left 2; (· (simp only [List.getElem?_toArray, List.getElem?_cons_zero]; first | done | rfl)); (· exact (fun _ _ _ h => h)); (· rfl); (· (intro w hSw; (try dsimp only at hSw); go_simp; (try with_reducible rfl)))) | (refine wpAnyH_take (i := 0) (oi := ?_) (v := ?_) ?_ (by kernel_rfl) (by kernel_rfl) (by kernel_rfl) ?_ (Or.inr ⟨?_, ?_⟩) (by assumption) ?_; rotate_left 2; (· (simp only [List.getElem?_toArray, List.getElem?_cons_zero]; first | done | rfl)); (· exact (fun _ _ _ h => h)); (· rfl); (· rfl)) | fail
              (try simp only [Act.put, List.setIfInBounds_toArray, List.set_cons_zero, List.set_cons_succ])
              first | (refine wpAnyH_take (i := 1) (oi := ?_) (v := ?_) ?_ (by kernel_rfl) (by kernel_rfl) (by kernel_rfl) ?_ (Or.inl ⟨?_, ?_⟩) (by assumption) ?_; rotate_left 2; (· (simp only [List.getElem?_toArray, List.getElem?_cons_succ, List.getElem?_cons_zero]; first | done | rfl)); (· exact (fun _ _ _ h => h)); (· rfl); (· (intro w hSw; (try dsimp only at hSw); go_simp; (try with_reducible rfl)))) | (refine wpAnyH_take (i := 1) (oi := ?_) (v := ?_) ?_ (by kernel_rfl) (by kernel_rfl) (by kernel_rfl) ?_ (Or.inr ⟨?_, ?_⟩) (by assumption) ?_; rotate_left 2; (· (simp only [List.getElem?_toArray, List.getElem?_cons_succ, List.getElem?_cons_zero]; first | done | rfl)); (· exact (fun _ _ _ h => h)); (· rfl); (· rfl)) | fail
              (try simp only [Act.put, List.setIfInBounds_toArray, List.set_cons_zero, List.set_cons_succ])
              first | (refine wpAnyH_take (i := 2) (oi := ?_) (v := ?_) ?_ (by kernel_rfl) (by kernel_rfl) (by kernel_rfl) ?_ (Or.inl ⟨?_, ?_⟩) (by assumption) ?_; rotate_left 2; (· (simp only [List.getElem?_toArray, List.getElem?_cons_succ, List.getElem?_cons_zero]; first | done | rfl)); (· exact (fun _ _ _ h => h)); (· rfl); (· (intro w hSw; (try dsimp only at hSw); go_simp; (try with_reducible rfl)))) | (refine wpAnyH_take (i := 2) (oi := ?_) (v := ?_) ?_ (by kernel_rfl) (by kernel_rfl) (by kernel_rfl) ?_ (Or.inr ⟨?_, ?_⟩) (by assumption) ?_; rotate_left 2; (· (simp only [List.getElem?_toArray, List.getElem?_cons_succ, List.getElem?_cons_zero]; first | done | rfl)); (· exact (fun _ _ _ h => h)); (· rfl); (· rfl)) | fail
              (try simp only [Act.put, List.setIfInBounds_toArray, List.set_cons_zero, List.set_cons_succ])
              first | (refine wpAnyH_take (i := 3) (oi := ?_) (v := ?_) ?_ (by kernel_rfl) (by kernel_rfl) (by kernel_rfl) ?_ (Or.inl ⟨?_, ?_⟩) (by assumption) ?_; rotate_left 2; (· (simp only [List.getElem?_toArray, List.getElem?_cons_succ, List.getElem?_cons_zero]; first | done | rfl)); (· exact (fun _ _ _ h => h)); (· rfl); (· (intro w hSw; (try dsimp only at hSw); go_simp; (try with_reducible rfl)))) | (refine wpAnyH_take (i := 3) (oi := ?_) (v := ?_) ?_ (by kernel_rfl) (by kernel_rfl) (by kernel_rfl) ?_ (Or.inr ⟨?_, ?_⟩) (by assumption) ?_; rotate_left 2; (· (simp only [List.getElem?_toArray, List.getElem?_cons_succ, List.getElem?_cons_zero]; first | done | rfl)); (· exact (fun _ _ _ h => h)); (· rfl); (· rfl)) | fail
              (try simp only [Act.put, List.setIfInBounds_toArray, List.set_cons_zero, List.set_cons_succ])
              first | (refine wpAnyH_take (i := 5) (oi := ?_) (v := ?_) ?_ (by kernel_rfl) (by kernel_rfl) (by kernel_rfl) ?_ (Or.inl ⟨?_, ?_⟩) (by assumption) ?_; rotate_left 2; (· (simp only [List.getElem?_toArray, List.getElem?_cons_succ, List.getElem?_cons_zero]; first | done | rfl)); (· exact (fun _ _ _ h => h)); (· rfl); (· (intro w hSw; (try dsimp only at hSw); go_simp; (try with_reducible rfl)))) | (refine wpAnyH_take (i := 5) (oi := ?_) (v := ?_) ?_ (by kernel_rfl) (by kernel_rfl) (by kernel_rfl) ?_ (Or.inr ⟨?_, ?_⟩) (by assumption) ?_; rotate_left 2; (· (simp only [List.getElem?_toArray, List.getElem?_cons_succ, List.getElem?_cons_zero]; first | done | rfl)); (· exact (fun _ _ _ h => h)); (· rfl); (· rfl)) | fail
              (try simp only [Act.put, List.setIfInBounds_toArray, List.set_cons_zero, List.set_cons_succ])
              first | (refine wpAnyH_take (i := 6) (oi := ?_) (v := ?_) ?_ (by kernel_rfl) (by kernel_rfl) (by kernel_rfl) ?_ (Or.inl ⟨?_, ?_⟩) (by assumption) ?_; rotate_left 2; (· (simp only [List.getElem?_toArray, List.getElem?_cons_succ, List.getElem?_cons_zero]; first | done | rfl)); (· exact (fun _ _ _ h => h)); (· rfl); (· (intro w hSw; (try dsimp only at hSw); go_simp; (try with_reducible rfl)))) | (refine wpAnyH_take (i := 6) (oi := ?_) (v := ?_) ?_ (by kernel_rfl) (by kernel_rfl) (by kernel_rfl) ?_ (Or.inr ⟨?_, ?_⟩) (by assumption) ?_; rotate_left 2; (· (simp only [List.getElem?_toArray, List.getElem?_cons_succ, List.getElem?_cons_zero]; first | done | rfl)); (· exact (fun _ _ _ h => h)); (· rfl); (· rfl)) | fail
              (try simp only [Act.put, List.setIfInBounds_toArray, List.set_cons_zero, List.set_cons_succ])
              refine wpAnyH_ready (rs := [4]) (by kernel_rfl) (by simp) ?_
              refine AllReadyH.cons (o := ?_) ?_ (fun K hK => ?_) AllReadyH.nil
              rotate_left 1
              · (simp only [List.getElem?_toArray, List.getElem?_cons_succ, List.getElem?_cons_zero]; first | done | rfl)
              go_simp
              first | (refine hK.out _ _ ?_ (fun hq1 => ?_)) | ((first | (go_at_call 23; refine (HCN.out _).mono ?_; rintro e w5 ⟨rfl, hb5⟩) | (go_at_call 22; refine (HSM.out _).mono ?_; rintro e w6 ⟨rfl, hb6⟩)); refine hK.out _ _ ?_ (fun hq1 => ?_)) | ((first | (go_at_call 23; refine (HCN.out _).mono ?_; rintro e w5 ⟨rfl, hb5⟩) | (go_at_call 22; refine (HSM.out _).mono ?_; rintro e w6 ⟨rfl, hb6⟩)); go_wp2_with fail; refine hK.out _ _ ?_ (fun hq1 => ?_)) | fail
              · ((try dsimp only); (first | exact HN5.out | exact nsg_below (bdrewN (Below.refl _ _) 1) HN5.out | assumption | exact nsg_below (by assumption) (by assumption)))
              clear hK K
              (try simp only [Act.put, List.setIfInBounds_toArray, List.set_cons_zero, List.set_cons_succ])
              clear hq0
              refine wpAnyH_ready (rs := [7]) (by kernel_rfl) (by simp) ?_
              refine AllReadyH.cons (o := ?_) ?_ (fun K hK => ?_) AllReadyH.nil
              rotate_left 1
              · (simp only [List.getElem?_toArray, List.getElem?_cons_succ, List.getElem?_cons_zero]; first | done | rfl)
              go_simp
              first | (refine hK.out _ _ ?_ (fun hq2 => ?_)) | ((first | (go_at_call 23; refine (HCN.out _).mono ?_; rintro e w5 ⟨rfl, hb5⟩) | (go_at_call 22; refine (HSM.out _).mono ?_; rintro e w6 ⟨rfl, hb6⟩)); refine hK.out _ _ ?_ (fun hq2 => ?_)) | ((first | (go_at_call 23; refine (HCN.out _).mono ?_; rintro e w5 ⟨rfl, hb5⟩) | (go_at_call 22; refine (HSM.out _).mono ?_; rintro e w6 ⟨rfl, hb6⟩)); go_wp2_with fail; refine hK.out _ _ ?_ (fun hq2 => ?_)) | fail
              · ((try dsimp only); (first | exact HN5.out | exact nsg_below (bdrewN (Below.refl _ _) 1) HN5.out | assumption | exact nsg_below (by assumption) (by assumption)))
              clear hK K
              (try simp only [Act.put, List.setIfInBounds_toArray, List.set_cons_zero, List.set_cons_succ])
              clear hq1
              first | (refine wpAnyH_take (i := 8) (oi := ?_) (v := ?_) ?_ (by kernel_rfl) (by kernel_rfl) (by kernel_rfl) ?_ (Or.inl ⟨?_, ?_⟩) (by assumption) ?_; rotate_left 2; (· (simp only [List.getElem?_toArray, List.getElem?_cons_succ, List.getElem?_cons_zero]; first | done | rfl)); (· exact (fun _ _ _ h => h)); (· rfl); (· (intro w hSw; (try dsimp only at hSw); go_simp; (try with_reducible rfl)))) | (refine wpAnyH_take (i := 8) (oi := ?_) (v := ?_) ?_ (by kernel_rfl) (by kernel_rfl) (by kernel_rfl) ?_ (Or.inr ⟨?_, ?_⟩) (by assumption) ?_; rotate_left 2; (· (simp only [List.getElem?_toArray, List.getElem?_cons_succ, List.getElem?_cons_zero]; first | done | rfl)); (· exact (fun _ _ _ h => h)); (· rfl); (· rfl)) | fail
              (try simp only [Act.put, List.setIfInBounds_toArray, List.set_cons_zero, List.set_cons_succ])
              first | (refine wpAnyH_take (i := 9) (oi := ?_) (v := ?_) ?_ (by kernel_rfl) (by kernel_rfl) (by kernel_rfl) ?_ (Or.inl ⟨?_, ?_⟩) (by assumption) ?_; rotate_left 2; (· (simp only [List.getElem?_toArray, List.getElem?_cons_succ, List.getElem?_cons_zero]; first | done | rfl)); (· exact (fun _ _ _ h => h)); (· rfl); (· (intro w hSw; (try dsimp only at hSw); go_simp; (try with_reducible rfl)))) | (refine wpAnyH_take (i := 9) (oi := ?_) (v := ?_) ?_ (by kernel_rfl) (by kernel_rfl) (by kernel_rfl) ?_ (Or.inr ⟨?_, ?_⟩) (by assumption) ?_; rotate_left 2; (· (simp only [List.getElem?_toArray, List.getElem?_cons_succ, List.getElem?_cons_zero]; first | done | rfl)); (· exact (fun _ _ _ h => h)); (· rfl); (· rfl)) | fail
              (try simp only [Act.put, List.setIfInBounds_toArray, List.set_cons_zero, List.set_cons_succ])
              first | (refine wpAnyH_take (i := 10) (oi := ?_) (v := ?_) ?_ (by kernel_rfl) (by kernel_rfl) (by kernel_rfl) ?_ (Or.inl ⟨?_, ?_⟩) (by assumption) ?_; rotate_left 2; (· (simp only [List.getElem?_toArray, List.getElem?_cons_succ, List.getElem?_cons_zero]; first | done | rfl)); (· exact (fun _ _ _ h => h)); (· rfl); (· (intro w hSw; (try dsimp only at hSw); go_simp; (try with_reducible rfl)))) | (refine wpAnyH_take (i := 10) (oi := ?_) (v := ?_) ?_ (by kernel_rfl) (by kernel_rfl) (by kernel_rfl) ?_ (Or.inr ⟨?_, ?_⟩) (by assumption) ?_; rotate_left 2; (· (simp only [List.getElem?_toArray, List.getElem?_cons_succ, List.getElem?_cons_zero]; first | done | rfl)); (· exact (fun _ _ _ h => h)); (· rfl); (· rfl)) | fail
              (try simp only [Act.put, List.setIfInBounds_toArray, List.set_cons_zero, List.set_cons_succ])
              first | (refine wpAnyH_take (i := 11) (oi := ?_) (v := ?_) ?_ (by kernel_rfl) (by kernel_rfl) (by kernel_rfl) ?_ (Or.inl ⟨?_, ?_⟩) (by assumption) ?_; rotate_left 2; (· (simp only [List.getElem?_toArray, List.getElem?_cons_succ, List.getElem?_cons_zero]; first | done | rfl)); (· exact (fun _ _ _ h => h)); (· rfl); (· (intro w hSw; (try dsimp only at hSw); go_simp; (try with_reducible rfl)))) | (refine wpAnyH_take (i := 11) (oi := ?_) (v := ?_) ?_ (by kernel_rfl) (by kernel_rfl) (by kernel_rfl) ?_ (Or.inr ⟨?_, ?_⟩) (by assumption) ?_; rotate_left 2; (· (simp only [List.getElem?_toArray, List.getElem?_cons_succ, List.getElem?_cons_zero]; first | done | rfl)); (· exact (fun _ _ _ h => h)); (· rfl); (· rfl)) | fail
              (try simp only [Act.put, List.setIfInBounds_toArray, List.set_cons_zero, List.set_cons_succ])
              first | (refine wpAnyH_take (i := 12) (oi := ?_) (v := ?_) ?_ (by kernel_rfl) (by kernel_rfl) (by kernel_rfl) ?_ (Or.inl ⟨?_, ?_⟩) (by assumption) ?_; rotate_left 2; (· (simp only [List.getElem?_toArray, List.getElem?_cons_succ, List.getElem?_cons_zero]; first | done | rfl)); (· exact (fun _ _ _ h => h)); (· rfl); (· (intro w hSw; (try dsimp only at hSw); go_simp; (try with_reducible rfl)))) | (refine wpAnyH_take (i := 12) (oi := ?_) (v := ?_) ?_ (by kernel_rfl) (by kernel_rfl) (by kernel_rfl) ?_ (Or.inr ⟨?_, ?_⟩) (by assumption) ?_; rotate_left 2; (· (simp only [List.getElem?_toArray, List.getElem?_cons_succ, List.getElem?_cons_zero]; first | done | rfl)); (· exact (fun _ _ _ h => h)); (· rfl); (· rfl)) | fail
              (try simp only [Act.put, List.setIfInBounds_toArray, List.set_cons_zero, List.set_cons_succ])
              first | (refine wpAnyH_take (i := 13) (oi := ?_) (v := ?_) ?_ (by kernel_rfl) (by kernel_rfl) (by kernel_rfl) ?_ (Or.inl ⟨?_, ?_⟩) (by assumption) ?_; rotate_left 2; (· (simp only [List.getElem?_toArray, List.getElem?_cons_succ, List.getElem?_cons_zero]; first | done | rfl)); (· exact (fun _ _ _ h => h)); (· rfl); (· (intro w hSw; (try dsimp only at hSw); go_simp; (try with_reducible rfl)))) | (refine wpAnyH_take (i := 13) (oi := ?_) (v := ?_) ?_ (by kernel_rfl) (by kernel_rfl) (by kernel_rfl) ?_ (Or.inr ⟨?_, ?_⟩) (by assumption) ?_; rotate_left 2; (· (simp only [List.getElem?_toArray, List.getElem?_cons_succ, List.getElem?_cons_zero]; first | done | rfl)); (· exact (fun _ _ _ h => h)); (· rfl); (· rfl)) | fail
              (try simp only [Act.put, List.setIfInBounds_toArray, List.set_cons_zero, List.set_cons_succ])
              first | (refine wpAnyH_take (i := 14) (oi := ?_) (v := ?_) ?_ (by kernel_rfl) (by kernel_rfl) (by kernel_rfl) ?_ (Or.inl ⟨?_, ?_⟩) (by assumption) ?_; rotate_left 2; (· (simp only [List.getElem?_toArray, List.getElem?_cons_succ, List.getElem?_cons_zero]; first | done | rfl)); (· exact (fun _ _ _ h => h)); (· rfl); (· (intro w hSw; (try dsimp only at hSw); go_simp; (try with_reducible rfl)))) | (refine wpAnyH_take (i := 14) (oi := ?_) (v := ?_) ?_ (by kernel_rfl) (by kernel_rfl) (by kernel_rfl) ?_ (Or.inr ⟨?_, ?_⟩) (by assumption) ?_; rotate_left 2; (· (simp only [List.getElem?_toArray, List.getElem?_cons_succ, List.getElem?_cons_zero]; first | done | rfl)); (· exact (fun _ _ _ h => h)); (· rfl); (· rfl)) | fail
              (try simp only [Act.put, List.setIfInBounds_toArray, List.set_cons_zero, List.set_cons_succ])
              first | (refine wpAnyH_take (i := 15) (oi := ?_) (v := ?_) ?_ (by kernel_rfl) (by kernel_rfl) (by kernel_rfl) ?_ (Or.inl ⟨?_, ?_⟩) (by assumption) ?_; rotate_left 2; (· (simp only [List.getElem?_toArray, List.getElem?_cons_succ, List.getElem?_cons_zero]; first | done | rfl)); (· exact (fun _ _ _ h => h)); (· rfl); (· (intro w hSw; (try dsimp only at hSw); go_simp; (try with_reducible rfl)))) | (refine wpAnyH_take (i := 15) (oi := ?_) (v := ?_) ?_ (by kernel_rfl) (by kernel_rfl) (by kernel_rfl) ?_ (Or.inr ⟨?_, ?_⟩) (by assumption) ?_; rotate_left 2; (· (simp only [List.getElem?_toArray, List.getElem?_cons_succ, List.getElem?_cons_zero]; first | done | rfl)); (· exact (fun _ _ _ h => h)); (· rfl); (· rfl)) | fail
              (try simp only [Act.put, List.setIfInBounds_toArray, List.set_cons_zero, List.set_cons_succ])
              first | (refine wpAnyH_take (i := 16) (oi := ?_) (v := ?_) ?_ (by kernel_rfl) (by kernel_rfl) (by kernel_rfl) ?_ (Or.inl ⟨?_, ?_⟩) (by assumption) ?_; rotate_left 2; (· (simp only [List.getElem?_toArray, List.getElem?_cons_succ, List.getElem?_cons_zero]; first | done | rfl)); (· exact (fun _ _ _ h => h)); (· rfl); (· (intro w hSw; (try dsimp only at hSw); go_simp; (try with_reducible rfl)))) | (refine wpAnyH_take (i := 16) (oi := ?_) (v := ?_) ?_ (by kernel_rfl) (by kernel_rfl) (by kernel_rfl) ?_ (Or.inr ⟨?_, ?_⟩) (by assumption) ?_; rotate_left 2; (· (simp only [List.getElem?_toArray, List.getElem?_cons_succ, List.getElem?_cons_zero]; first | done | rfl)); (· exact (fun _ _ _ h => h)); (· rfl); (· rfl)) | fail
              (try simp only [Act.put, List.setIfInBounds_toArray, List.set_cons_zero, List.set_cons_succ])
              first | (refine wpAnyH_take (i := 17) (oi := ?_) (v := ?_) ?_ (by kernel_rfl) (by kernel_rfl) (by kernel_rfl) ?_ (Or.inl ⟨?_, ?_⟩) (by assumption) ?_; rotate_left 2; (· (simp only [List.getElem?_toArray, List.getElem?_cons_succ, List.getElem?_cons_zero]; first | done | rfl)); (· exact (fun _ _ _ h => h)); (· rfl); (· (intro w hSw; (try dsimp only at hSw); go_simp; (try with_reducible rfl)))) | (refine wpAnyH_take (i := 17) (oi := ?_) (v := ?_) ?_ (by kernel_rfl) (by kernel_rfl) (by kernel_rfl) ?_ (Or.inr ⟨?_, ?_⟩) (by assumption) ?_; rotate_left 2; (· (simp only [List.getElem?_toArray, List.getElem?_cons_succ, List.getElem?_cons_zero]; first | done | rfl)); (· exact (fun _ _ _ h => h)); (· rfl); (· rfl)) | fail
              (try simp only [Act.put, List.setIfInBounds_toArray, List.set_cons_zero, List.set_cons_succ])
              first | (refine wpAnyH_take (i := 18) (oi := ?_) (v := ?_) ?_ (by kernel_rfl) (by kernel_rfl) (by kernel_rfl) ?_ (Or.inl ⟨?_, ?_⟩) (by assumption) ?_; rotate_left 2; (· (simp only [List.getElem?_toArray, List.getElem?_cons_succ, List.getElem?_cons_zero]; first | done | rfl)); (· exact (fun _ _ _ h => h)); (· rfl); (· (intro w hSw; (try dsimp only at hSw); go_simp; (try with_reducible rfl)))) | (refine wpAnyH_take (i := 18) (oi := ?_) (v := ?_) ?_ (by kernel_rfl) (by kernel_rfl) (by kernel_rfl) ?_ (Or.inr ⟨?_, ?_⟩) (by assumption) ?_; rotate_left 2; (· (simp only [List.getElem?_toArray, List.getElem?_cons_succ, List.getElem?_cons_zero]; first | done | rfl)); (· exact (fun _ _ _ h => h)); (· rfl); (· rfl)) | fail
              (try simp only [Act.put, List.setIfInBounds_toArray, List.set_cons_zero, List.set_cons_succ])
              first | (refine wpAnyH_take (i := 19) (oi := ?_) (v := ?_) ?_ (by kernel_rfl) (by kernel_rfl) (by kernel_rfl) ?_ (Or.inl ⟨?_, ?_⟩) (by assumption) ?_; rotate_left 2; (· (simp only [List.getElem?_toArray, List.getElem?_cons_succ, List.getElem?_cons_zero]; first | done | rfl)); (· exact (fun _ _ _ h => h)); (· rfl); (· (intro w hSw; (try dsimp only at hSw); go_simp; (try with_reducible rfl)))) | (refine wpAnyH_take (i := 19) (oi := ?_) (v := ?_) ?_ (by kernel_rfl) (by kernel_rfl) (by kernel_rfl) ?_ (Or.inr ⟨?_, ?_⟩) (by assumption) ?_; rotate_left 2; (· (simp only [List.getElem?_toArray, List.getElem?_cons_succ, List.getElem?_cons_zero]; first | done | rfl)); (· exact (fun _ _ _ h => h)); (· rfl); (· rfl)) | fail
              (try simp only [Act.put, List.setIfInBounds_toArray, List.set_cons_zero, List.set_cons_succ])
              first | (refine wpAnyH_take (i := 20) (oi := ?_) (v := ?_) ?_ (by kernel_rfl) (by kernel_rfl) (by kernel_rfl) ?_ (Or.inl ⟨?_, ?_⟩) (by assumption) ?_; rotate_left 2; (· (simp only [List.getElem?_toArray, List.getElem?_cons_succ, List.getElem?_cons_zero]; first | done | rfl)); (· exact (fun _ _ _ h => h)); (· rfl); (· (intro w hSw; (try dsimp only at hSw); go_simp; (try with_reducible rfl)))) | (refine wpAnyH_take (i := 20) (oi := ?_) (v := ?_) ?_ (by kernel_rfl) (by kernel_rfl) (by kernel_rfl) ?_ (Or.inr ⟨?_, ?_⟩) (by assumption) ?_; rotate_left 2; (· (simp only [List.getElem?_toArray, List.getElem?_cons_succ, List.getElem?_cons_zero]; first | done | rfl)); (· exact (fun _ _ _ h => h)); (· rfl); (· rfl)) | fail
              (try simp only [Act.put, List.setIfInBounds_toArray, List.set_cons_zero, List.set_cons_succ])
              first | (refine wpAnyH_take (i := 21) (oi := ?_) (v := ?_) ?_ (by kernel_rfl) (by kernel_rfl) (by kernel_rfl) ?_ (Or.inl ⟨?_, ?_⟩) (by assumption) ?_; rotate_left 2; (· (simp only [List.getElem?_toArray, List.getElem?_cons_succ, List.getElem?_cons_zero]; first | done | rfl)); (· exact (fun _ _ _ h => h)); (· rfl); (· (intro w hSw; (try dsimp only at hSw); go_simp; (try with_reducible rfl)))) | (refine wpAnyH_take (i := 21) (oi := ?_) (v := ?_) ?_ (by kernel_rfl) (by kernel_rfl) (by kernel_rfl) ?_ (Or.inr ⟨?_, ?_⟩) (by assumption) ?_; rotate_left 2; (· (simp only [List.getElem?_toArray, List.getElem?_cons_succ, List.getElem?_cons_zero]; first | done | rfl)); (· exact (fun _ _ _ h => h)); (· rfl); (· rfl)) | fail
              (try simp only [Act.put, List.setIfInBounds_toArray, List.set_cons_zero, List.set_cons_succ])
              first | (refine wpAnyH_take (i := 22) (oi := ?_) (v := ?_) ?_ (by kernel_rfl) (by kernel_rfl) (by kernel_rfl) ?_ (Or.inl ⟨?_, ?_⟩) (by assumption) ?_; rotate_left 2; (· (simp only [List.getElem?_toArray, List.getElem?_cons_succ, List.getElem?_cons_zero]; first | done | rfl)); (· exact (fun _ _ _ h => h)); (· rfl); (· (intro w hSw; (try dsimp only at hSw); go_simp; (try with_reducible rfl)))) | (refine wpAnyH_take (i := 22) (oi := ?_) (v := ?_) ?_ (by kernel_rfl) (by kernel_rfl) (by kernel_rfl) ?_ (Or.inr ⟨?_, ?_⟩) (by assumption) ?_; rotate_left 2; (· (simp only [List.getElem?_toArray, List.getElem?_cons_succ, List.getElem?_cons_zero]; first | done | rfl)); (· exact (fun _ _ _ h => h)); (· rfl); (· rfl)) | fail
              (try simp only [Act.put, List.setIfInBounds_toArray, List.set_cons_zero, List.set_cons_succ])
              first | (refine wpAnyH_take (i := 23) (oi := ?_) (v := ?_) ?_ (by kernel_rfl) (by kernel_rfl) (by kernel_rfl) ?_ (Or.inl ⟨?_, ?_⟩) (by assumption) ?_; rotate_left 2; (· (simp only [List.getElem?_toArray, List.getElem?_cons_succ, List.getElem?_cons_zero]; first | done | rfl)); (· exact (fun _ _ _ h => h)); (· rfl); (· (intro w hSw; (try dsimp only at hSw); go_simp; (try with_reducible rfl)))) | (refine wpAnyH_take (i := 23) (oi := ?_) (v := ?_) ?_ (by kernel_rfl) (by kernel_rfl) (by kernel_rfl) ?_ (Or.inr ⟨?_, ?_⟩) (by assumption) ?_; rotate_left 2; (· (simp only [List.getElem?_toArray, List.getElem?_cons_succ, List.getElem?_cons_zero]; first | done | rfl)); (· exact (fun _ _ _ h => h)); (· rfl); (· rfl)) | fail
              (try simp only [Act.put, List.setIfInBounds_toArray, List.set_cons_zero, List.set_cons_succ])
              first | (refine wpAnyH_take (i := 24) (oi := ?_) (v := ?_) ?_ (by kernel_rfl) (by kernel_rfl) (by kernel_rfl) ?_ (Or.inl ⟨?_, ?_⟩) (by assumption) ?_; rotate_left 2; (· (simp only [List.getElem?_toArray, List.getElem?_cons_succ, List.getElem?_cons_zero]; first | done | rfl)); (· exact (fun _ _ _ h => h)); (· rfl); (· (intro w hSw; (try dsimp only at hSw); go_simp; (try with_reducible rfl)))) | (refine wpAnyH_take (i := 24) (oi := ?_) (v := ?_) ?_ (by kernel_rfl) (by kernel_rfl) (by kernel_rfl) ?_ (Or.inr ⟨?_, ?_⟩) (by assumption) ?_; rotate_left 2; (· (simp only [List.getElem?_toArray, List.getElem?_cons_succ, List.getElem?_cons_zero]; first | done | rfl)); (· exact (fun _ _ _ h => h)); (· rfl); (· rfl)) | fail
              (try simp only [Act.put, List.setIfInBounds_toArray, List.set_cons_zero, List.set_cons_succ])
              first | (refine wpAnyH_take (i := 25) (oi := ?_) (v := ?_) ?_ (by kernel_rfl) (by kernel_rfl) (by kernel_rfl) ?_ (Or.inl ⟨?_, ?_⟩) (by assumption) ?_; rotate_left 2; (· (simp only [List.getElem?_toArray, List.getElem?_cons_succ, List.getElem?_cons_zero]; first | done | rfl)); (· exact (fun _ _ _ h => h)); (· rfl); (· (intro w hSw; (try dsimp only at hSw); go_simp; (try with_reducible rfl)))) | (refine wpAnyH_take (i := 25) (oi := ?_) (v := ?_) ?_ (by kernel_rfl) (by kernel_rfl) (by kernel_rfl) ?_ (Or.inr ⟨?_, ?_⟩) (by assumption) ?_; rotate_left 2; (· (simp only [List.getElem?_toArray, List.getElem?_cons_succ, List.getElem?_cons_zero]; first | done | rfl)); (· exact (fun _ _ _ h => h)); (· rfl); (· rfl)) | fail
              (try simp only [Act.put, List.setIfInBounds_toArray, List.set_cons_zero, List.set_cons_succ])
              refine wpAnyH_done (by kernel_rfl) ?_ _
              go_wp2_with fail
              go_meet
              exact ⟨Lib.hid (by assumption), rfl⟩
          case rest => as_aux_lemma =>
          obtain ⟨HN6, rfl⟩ := hcut
          clear HN5 HCN HWAY
          have hat6 := HAT.out.below HN6.out.2.2.2.2.2.2.2.2.2.2.2.2.2.2.2.2.2.2
          have HAT6 := Lib.hid hat6
          clear hat6
          obtain ⟨c0, c1, b0, b1, b2, b3, b4, b5, q0, g0, g1, g2, g3, g4, l0, l1, l2, l3, hb0⟩ : (fun w' => w'.cell? ⟨be, 0, none⟩ = some (.string ⟨t.toArray⟩) ∧ w'.cell? ⟨be, 1, none⟩ = some (.slice (some a) nb.length cp) ∧ w'.cell? ⟨bx, 0, none⟩ = some (.string ⟨nm.toArray⟩) ∧ w'.cell? ⟨bx, 1, none⟩ = some (.int .i64 vk) ∧ w'.cell? ⟨bx, 2, none⟩ = some (.int .i64 vn) ∧ w'.cell? ⟨bx, 3, none⟩ = some (.float .f64 vx) ∧ w'.cell? ⟨bx, 4, none⟩ = some (.string ⟨vt.toArray⟩) ∧ w'.cell? ⟨bx, 5, none⟩ = some (.bool vy) ∧ w'.cell? pp = some (.string ⟨pn.toArray⟩) ∧ w'.cell? ⟨bv, 0, none⟩ = some (.int .i64 rk) ∧ w'.cell? ⟨bv, 1, none⟩ = some (.int .i64 rn) ∧ w'.cell? ⟨bv, 2, none⟩ = some (.float .f64 rx) ∧ w'.cell? ⟨bv, 3, none⟩ = some (.string ⟨rt.toArray⟩) ∧ w'.cell? ⟨bv, 4, none⟩ = some (.bool ry) ∧ be < w'.heap.size ∧ bx < w'.heap.size ∧ pp.block < w'.heap.size ∧ bv < w'.heap.size ∧ Below WE.heap.size WE w') wc := HN6.out
          go_wp2_with (first | (go_at_call 24; refine (HGET.out _ HAT6.out).mono ?_; rintro e w6 ⟨rfl, hb6⟩; clear c0 c1 b0 b1 b2 b3 b4 b5 q0 g0 g1 g2 g3 g4 l0 l1 l2 l3 hb0; obtain ⟨c0, c1, b0, b1, b2, b3, b4, b5, q0, g0, g1, g2, g3, g4, l0, l1, l2, l3, hb0⟩ : (fun w' => w'.cell? ⟨be, 0, none⟩ = some (.string ⟨t.toArray⟩) ∧ w'.cell? ⟨be, 1, none⟩ = some (.slice (some a) nb.length cp) ∧ w'.cell? ⟨bx, 0, none⟩ = some (.string ⟨nm.toArray⟩) ∧ w'.cell? ⟨bx, 1, none⟩ = some (.int .i64 vk) ∧ w'.cell? ⟨bx, 2, none⟩ = some (.int .i64 vn) ∧ w'.cell? ⟨bx, 3, none⟩ = some (.float .f64 vx) ∧ w'.cell? ⟨bx, 4, none⟩ = some (.string ⟨vt.toArray⟩) ∧ w'.cell? ⟨bx, 5, none⟩ = some (.bool vy) ∧ w'.cell? pp = some (.string ⟨pn.toArray⟩) ∧ w'.cell? ⟨bv, 0, none⟩ = some (.int .i64 rk) ∧ w'.cell? ⟨bv, 1, none⟩ = some (.int .i64 rn) ∧ w'.cell? ⟨bv, 2, none⟩ = some (.float .f64 rx) ∧ w'.cell? ⟨bv, 3, none⟩ = some (.string ⟨rt.toArray⟩) ∧ w'.cell? ⟨bv, 4, none⟩ = some (.bool ry) ∧ be < w'.heap.size ∧ bx < w'.heap.size ∧ pp.block < w'.heap.size ∧ bv < w'.heap.size ∧ Below WE.heap.size WE w') w6 := nsg_below hb6 HN6.out) | (go_at_call 22; refine (HSM.out _).mono ?_; rintro e w7 ⟨rfl, hb7⟩))
          go_roundg (nb.length - (k + 1))
          case measure => omega
          case rel => exact ⟨k + 1, by omega, by go_num, btrans (btrans hb0 (balloc _ _)) hb7⟩
        · as_aux_lemma =>
          obtain rfl : k = nb.length := by omega
          have f0 := (hwy.cell (p := ⟨be, 0, none⟩) hbe2).trans e0
          have f1 := (hwy.cell (p := ⟨be, 1, none⟩) hbe2).trans e1
          have hbey : be < wr.heap.size := Nat.lt_of_lt_of_le hbe2 hwy.size
          have hgf : foundB nb [126] = (mapOf l [126]).isSome := by
            have h := found_raw l [126]
            rw [← HNB.out] at h
            exact h
          have hgt (w : World) (h : Attrs w b0 nb) := get_any t b0 cp nb [126] w h (by omega)
          rw [hgf] at hgt
          obtain ⟨gv, hgv⟩ : ∃ gv : V, gv = if (mapOf l [126]).isSome then (nb[bs nb [126] 0 nb.length]!).val else ⟨0, 0, 0, [], false⟩ := ⟨_, rfl⟩
          rw [← hgv] at hgt
          clear hgv hgf
          have hnt : newB nb = nb := by have h := newB_twice l; rw [← HNB.out] at h; exact h
          have hnew2 (w : World) (h : Attrs w b0 nb) := new_any t b0 cp nb w h (by omega)
          rw [hnt] at hnew2
          have hes (w : World) (b1 : Option Addr) (cp1 : Nat) (h2 : Attrs w b0 nb) (h1 : Attrs w b1 nb) := esame_any t t b0 b1 cp cp1 nb nb w h2 h1 (by omega) (by omega) HNUM.out HNUM.out
          rw [sameL_self, show (t == t && true) = true by simp] at hes
          have hlk (w : World) (h : MapR w mb l.length (mapOf l) (newB l).length) : (Instr.lookup 42 (.map (some mb)) (.string ⟨#[126]⟩) true).run Tryz.prog w = .ok (.tuple #[(mapOf l [126]).getD (.agg #[.int .i64 0, .int .i64 0, .float .f64 0, .string ⟨#[]⟩, .bool false]), .bool (mapOf l [126]).isSome]) w :=
            h.look_ok Tryz.underlying42 (zero_value _) [126] (by decide)
          have hraw : ∃ (zk zn : Int) (zx : Nat) (zt : List UInt8) (zy : Bool), (mapOf l [126]).getD (.agg #[.int .i64 0, .int .i64 0, .float .f64 0, .string ⟨#[]⟩, .bool false]) = val zk zn zx zt zy := by
            unfold mapOf
            cases rawV l [126] with
            | none => exact ⟨0, 0, 0, [], false, rfl⟩
            | some v => exact ⟨_, _, _, _, _, rfl⟩
          obtain ⟨zk, zn, zx, zt, zy, hz⟩ := hraw
          rw [hz] at hlk
          clear hz hnt
          generalize (mapOf l [126]).isSome = isb at *
          have hmw := HMR2.out.below hwy
          have hbw := btrans HBW.out hwy
          have hat := HAT.out.below hwy
          obtain ⟨gk2, gn, gx, gt, gy⟩ := gv
          have HGT := Lib.hid hgt; have HNEW2 := Lib.hid hnew2; have HES := Lib.hid hes; have HLK := Lib.hid hlk; have HMW := Lib.hid hmw; have HBW2 := Lib.hid hbw; have HATW := Lib.hid hat
          clear hgt hnew2 hes hlk hmw hbw hat e0 e1 HMR2 HBW HAT
          go_wp2_with (go_at_call 24; refine (HGT.out _ HATW.out).mono ?_; rintro e w6 ⟨rfl, hb6⟩; have hlk6 := HLK.out _ ((HMW.out.below hb6).below (balloc w6 (.cells #[.int .i64 gk2, .int .i64 gn, .float .f64 gx, .string ⟨gt.toArray⟩, .bool gy] 30))))
          clear hlk6
          have hst : (fun w' => w'.cell? ⟨be, 0, none⟩ = some (.string ⟨t.toArray⟩) ∧ w'.cell? ⟨be, 1, none⟩ = some (.slice b0 nb.length cp) ∧ Attrs w' b0 nb ∧ Below w.heap.size w w' ∧ be < w'.heap.size) ((w6.alloc (.cells #[.int .i64 gk2, .int .i64 gn, .float .f64 gx, .string ⟨gt.toArray⟩, .bool gy] 30)).alloc (.cells #[.int .i64 zk, .int .i64 zn, .float .f64 zx, .string ⟨zt.toArray⟩, .bool zy] 30)) := by
            have hbz := btrans hb6 (balloc2 w6 (.cells #[.int .i64 gk2, .int .i64 gn, .float .f64 gx, .string ⟨gt.toArray⟩, .bool gy] 30) (.cells #[.int .i64 zk, .int .i64 zn, .float .f64 zx, .string ⟨zt.toArray⟩, .bool zy] 30))
            exact ⟨(hbz.cell (p := ⟨be, 0, none⟩) hbey).trans f0, (hbz.cell (p := ⟨be, 1, none⟩) hbey).trans f1, HATW.out.below hbz, btrans HBW2.out hbz, Nat.lt_of_lt_of_le hbey hbz.size⟩
          have HS26 := Lib.hid hst
          clear hst
          refine wp_region_held_drew (S := (fun w' => w'.cell? ⟨be, 0, none⟩ = some (.string ⟨t.toArray⟩) ∧ w'.cell? ⟨be, 1, none⟩ = some (.slice b0 nb.length cp) ∧ Attrs w' b0 nb ∧ Below w.heap.size w w' ∧ be < w'.heap.size)) (by kernel_rfl) ?_ (fun hq0 => ?_)
          · ((try dsimp only); (first | exact HS26.out | exact es26_below (bdrewN (Below.refl _ _) 1) HS26.out | assumption | exact es26_below (by assumption) (by assumption)))
          first | (refine wpAnyH_take (i := 0) (oi := ?_) (v := ?_) ?_ (by kernel_rfl) (by kernel_rfl) (by kernel_rfl) ?_ (Or.inl ⟨?_, ?_⟩) (by assumption) ?_; rotate_left 2; (· (simp only [List.getElem?_toArray, List.getElem?_cons_zero]; first | done | rfl)); (· exact (fun _ _ _ h => h)); (· rfl); (· (intro w hSw; (try dsimp only at hSw); go_simp; (try with_reducible rfl)))) | (refine wpAnyH_take (i := 0) (oi := ?_) (v := ?_) ?_ (by kernel_rfl) (by kernel_rfl) (by kernel_rfl) ?_ (Or.inr ⟨?_, ?_⟩) (by assumption) ?_; rotate_left 2; (· (simp only [List.getElem?_toArray, List.getElem?_cons_zero]; first | done | rfl)); (· exact (fun _ _ _ h => h)); (· rfl); (· rfl)) | fail
          (try simp only [Act.put, List.setIfInBounds_toArray, List.set_cons_zero, List.set_cons_succ])
          first | (refine wpAnyH_take (i := 1) (oi := ?_) (v := ?_) ?_ (by kernel_rfl) (by kernel_rfl) (by kernel_rfl) ?_ (Or.inl ⟨?_, ?_⟩) (by assumption) ?_; rotate_left 2; (· (simp only [List.getElem?_toArray, List.getElem?_cons_succ, List.getElem?_cons_zero]; first | done | rfl)); (· exact (fun _ _ _ h => h)); (· rfl); (· (intro w hSw; (try dsimp only at hSw); go_simp; (try with_reducible rfl)))) | (refine wpAnyH_take (i := 1) (oi := ?_) (v := ?_) ?_ (by kernel_rfl) (by kernel_rfl) (by kernel_rfl) ?_ (Or.inr ⟨?_, ?_⟩) (by assumption) ?_; rotate_left 2; (· (simp only [List.getElem?_toArray, List.getElem?_cons_succ, List.getElem?_cons_zero]; first | done | rfl)); (· exact (fun _ _ _ h => h)); (· rfl); (· rfl)) | fail
          (try simp only [Act.put, List.setIfInBounds_toArray, List.set_cons_zero, List.set_cons_succ])
          first | (refine wpAnyH_take (i := 2) (oi := ?_) (v := ?_) ?_ (by kernel_rfl) (by kernel_rfl) (by kernel_rfl) ?_ (Or.inl ⟨?_, ?_⟩) (by assumption) ?_; rotate_left 2; (· (simp only [List.getElem?_toArray, List.getElem?_cons_succ, List.getElem?_cons_zero]; first | done | rfl)); (· exact (fun _ _ _ h => h)); (· rfl); (· (intro w hSw; (try dsimp only at hSw); go_simp; (try with_reducible rfl)))) | (refine wpAnyH_take (i := 2) (oi := ?_) (v := ?_) ?_ (by kernel_rfl) (by kernel_rfl) (by kernel_rfl) ?_ (Or.inr ⟨?_, ?_⟩) (by assumption) ?_; rotate_left 2; (· (simp only [List.getElem?_toArray, List.getElem?_cons_succ, List.getElem?_cons_zero]; first | done | rfl)); (· exact (fun _ _ _ h => h)); (· rfl); (· rfl)) | fail
          (try simp only [Act.put, List.setIfInBounds_toArray, List.set_cons_zero, List.set_cons_succ])
          first | (refine wpAnyH_take (i := 3) (oi := ?_) (v := ?_) ?_ (by kernel_rfl) (by kernel_rfl) (by kernel_rfl) ?_ (Or.inl ⟨?_, ?_⟩) (by assumption) ?_; rotate_left 2; (· (simp only [List.getElem?_toArray, List.getElem?_cons_succ, List.getElem?_cons_zero]; first | done | rfl)); (· exact (fun _ _ _ h => h)); (· rfl); (· (intro w hSw; (try dsimp only at hSw); go_simp; (try with_reducible rfl)))) | (refine wpAnyH_take (i := 3) (oi := ?_) (v := ?_) ?_ (by kernel_rfl) (by kernel_rfl) (by kernel_rfl) ?_ (Or.inr ⟨?_, ?_⟩) (by assumption) ?_; rotate_left 2; (· (simp only [List.getElem?_toArray, List.getElem?_cons_succ, List.getElem?_cons_zero]; first | done | rfl)); (· exact (fun _ _ _ h => h)); (· rfl); (· rfl)) | fail
          (try simp only [Act.put, List.setIfInBounds_toArray, List.set_cons_zero, List.set_cons_succ])
          first | (refine wpAnyH_take (i := 4) (oi := ?_) (v := ?_) ?_ (by kernel_rfl) (by kernel_rfl) (by kernel_rfl) ?_ (Or.inl ⟨?_, ?_⟩) (by assumption) ?_; rotate_left 2; (· (simp only [List.getElem?_toArray, List.getElem?_cons_succ, List.getElem?_cons_zero]; first | done | rfl)); (· exact (fun _ _ _ h => h)); (· rfl); (· (intro w hSw; (try dsimp only at hSw); go_simp; (try with_reducible rfl)))) | (refine wpAnyH_take (i := 4) (oi := ?_) (v := ?_) ?_ (by kernel_rfl) (by kernel_rfl) (by kernel_rfl) ?_ (Or.inr ⟨?_, ?_⟩) (by assumption) ?_; rotate_left 2; (· (simp only [List.getElem?_toArray, List.getElem?_cons_succ, List.getElem?_cons_zero]; first | done | rfl)); (· exact (fun _ _ _ h => h)); (· rfl); (· rfl)) | fail
          (try simp only [Act.put, List.setIfInBounds_toArray, List.set_cons_zero, List.set_cons_succ])
          first | (refine wpAnyH_take (i := 5) (oi := ?_) (v := ?_) ?_ (by kernel_rfl) (by kernel_rfl) (by kernel_rfl) ?_ (Or.inl ⟨?_, ?_⟩) (by assumption) ?_; rotate_left 2; (· (simp only [List.getElem?_toArray, List.getElem?_cons_succ, List.getElem?_cons_zero]; first | done | rfl)); (· exact (fun _ _ _ h => h)); (· rfl); (· (intro w hSw; (try dsimp only at hSw); go_simp; (try with_reducible rfl)))) | (refine wpAnyH_take (i := 5) (oi := ?_) (v := ?_) ?_ (by kernel_rfl) (by kernel_rfl) (by kernel_rfl) ?_ (Or.inr ⟨?_, ?_⟩) (by assumption) ?_; rotate_left 2; (· (simp only [List.getElem?_toArray, List.getElem?_cons_succ, List.getElem?_cons_zero]; first | done | rfl)); (· exact (fun _ _ _ h => h)); (· rfl); (· rfl)) | fail
          (try simp only [Act.put, List.setIfInBounds_toArray, List.set_cons_zero, List.set_cons_succ])
          first | (refine wpAnyH_take (i := 6) (oi := ?_) (v := ?_) ?_ (by kernel_rfl) (by kernel_rfl) (by kernel_rfl) ?_ (Or.inl ⟨?_, ?_⟩) (by assumption) ?_; rotate_left 2; (· (simp only [List.getElem?_toArray, List.getElem?_cons_succ, List.getElem?_cons_zero]; first | done | rfl)); (· exact (fun _ _ _ h => h)); (· rfl); (· (intro w hSw; (try dsimp only at hSw); go_simp; (try with_reducible rfl)))) | (refine wpAnyH_take (i := 6) (oi := ?_) (v := ?_) ?_ (by kernel_rfl) (by kernel_rfl) (by kernel_rfl) ?_ (Or.inr ⟨?_, ?_⟩) (by assumption) ?_; rotate_left 2; (· (simp only [List.getElem?_toArray, List.getElem?_cons_succ, List.getElem?_cons_zero]; first | done | rfl)); (· exact (fun _ _ _ h => h)); (· rfl); (· rfl)) | fail
          (try simp only [Act.put, List.setIfInBounds_toArray, List.set_cons_zero, List.set_cons_succ])
          first | (refine wpAnyH_take (i := 7) (oi := ?_) (v := ?_) ?_ (by kernel_rfl) (by kernel_rfl) (by kernel_rfl) ?_ (Or.inl ⟨?_, ?_⟩) (by assumption) ?_; rotate_left 2; (· (simp only [List.getElem?_toArray, List.getElem?_cons_succ, List.getElem?_cons_zero]; first | done | rfl)); (· exact (fun _ _ _ h => h)); (· rfl); (· (intro w hSw; (try dsimp only at hSw); go_simp; (try with_reducible rfl)))) | (refine wpAnyH_take (i := 7) (oi := ?_) (v := ?_) ?_ (by kernel_rfl) (by kernel_rfl) (by kernel_rfl) ?_ (Or.inr ⟨?_, ?_⟩) (by assumption) ?_; rotate_left 2; (· (simp only [List.getElem?_toArray, List.getElem?_cons_succ, List.getElem?_cons_zero]; first | done | rfl)); (· exact (fun _ _ _ h => h)); (· rfl); (· rfl)) | fail
          (try simp only [Act.put, List.setIfInBounds_toArray, List.set_cons_zero, List.set_cons_succ])
          refine wpAnyH_ready (rs := [8]) (by kernel_rfl) (by simp) ?_
          refine AllReadyH.cons (o := ?_) ?_ (fun K hK => ?_) AllReadyH.nil
          rotate_left 1
          · (simp only [List.getElem?_toArray, List.getElem?_cons_succ, List.getElem?_cons_zero]; first | done | rfl)
          go_simp
          first | (refine hK.out _ _ ?_ (fun hq1 => ?_)) | ((first | (go_at_call 17; refine (HNEW2.out _ (es26_attrs (by assumption))).mono ?_; rintro e w8 ⟨b1, cp1, rfl, hat8, _, hb8⟩) | (go_at_call 21; refine (HES.out _ _ _ (es26_attrs (by assumption)) hat8).mono ?_; rintro e w9 ⟨rfl, hb9⟩)); refine hK.out _ _ ?_ (fun hq1 => ?_)) | ((first | (go_at_call 17; refine (HNEW2.out _ (es26_attrs (by assumption))).mono ?_; rintro e w8 ⟨b1, cp1, rfl, hat8, _, hb8⟩) | (go_at_call 21; refine (HES.out _ _ _ (es26_attrs (by assumption)) hat8).mono ?_; rintro e w9 ⟨rfl, hb9⟩)); go_wp2_with fail; refine hK.out _ _ ?_ (fun hq1 => ?_)) | fail
          · ((try dsimp only); (first | exact HS26.out | exact es26_below (bdrewN (Below.refl _ _) 1) HS26.out | assumption | exact es26_below (by assumption) (by assumption)))
          clear hK K
          (try simp only [Act.put, List.setIfInBounds_toArray, List.set_cons_zero, List.set_cons_succ])
          clear hq0
          refine wpAnyH_ready (rs := [9]) (by kernel_rfl) (by simp) ?_
          refine AllReadyH.cons (o := ?_) ?_ (fun K hK => ?_) AllReadyH.nil
          rotate_left 1
          · (simp only [List.getElem?_toArray, List.getElem?_cons_succ, List.getElem?_cons_zero]; first | done | rfl)
          go_simp
          first | (refine hK.out _ _ ?_ (fun hq2 => ?_)) | ((first | (go_at_call 17; refine (HNEW2.out _ (es26_attrs (by assumption))).mono ?_; rintro e w8 ⟨b1, cp1, rfl, hat8, _, hb8⟩) | (go_at_call 21; refine (HES.out _ _ _ (es26_attrs (by assumption)) hat8).mono ?_; rintro e w9 ⟨rfl, hb9⟩)); refine hK.out _ _ ?_ (fun hq2 => ?_)) | ((first | (go_at_call 17; refine (HNEW2.out _ (es26_attrs (by assumption))).mono ?_; rintro e w8 ⟨b1, cp1, rfl, hat8, _, hb8⟩) | (go_at_call 21; refine (HES.out _ _ _ (es26_attrs (by assumption)) hat8).mono ?_; rintro e w9 ⟨rfl, hb9⟩)); go_wp2_with fail; refine hK.out _ _ ?_ (fun hq2 => ?_)) | fail
          · ((try dsimp only); (first | exact HS26.out | exact es26_below (bdrewN (Below.refl _ _) 1) HS26.out | assumption | exact es26_below (by assumption) (by assumption)))
          clear hK K
          (try simp only [Act.put, List.setIfInBounds_toArray, List.set_cons_zero, List.set_cons_succ])
          clear hq1
          first | (refine wpAnyH_take (i := 10) (oi := ?_) (v := ?_) ?_ (by kernel_rfl) (by kernel_rfl) (by kernel_rfl) ?_ (Or.inl ⟨?_, ?_⟩) (by assumption) ?_; rotate_left 2; (· (simp only [List.getElem?_toArray, List.getElem?_cons_succ, List.getElem?_cons_zero]; first | done | rfl)); (· exact (fun _ _ _ h => h)); (· rfl); (· (intro w hSw; (try dsimp only at hSw); go_simp; (try with_reducible rfl)))) | (refine wpAnyH_take (i := 10) (oi := ?_) (v := ?_) ?_ (by kernel_rfl) (by kernel_rfl) (by kernel_rfl) ?_ (Or.inr ⟨?_, ?_⟩) (by assumption) ?_; rotate_left 2; (· (simp only [List.getElem?_toArray, List.getElem?_cons_succ, List.getElem?_cons_zero]; first | done | rfl)); (· exact (fun _ _ _ h => h)); (· rfl); (· rfl)) | fail
          (try simp only [Act.put, List.setIfInBounds_toArray, List.set_cons_zero, List.set_cons_succ])
          first | (refine wpAnyH_take (i := 11) (oi := ?_) (v := ?_) ?_ (by kernel_rfl) (by kernel_rfl) (by kernel_rfl) ?_ (Or.inl ⟨?_, ?_⟩) (by assumption) ?_; rotate_left 2; (· (simp only [List.getElem?_toArray, List.getElem?_cons_succ, List.getElem?_cons_zero]; first | done | rfl)); (· exact (fun _ _ _ h => h)); (· rfl); (· (intro w hSw; (try dsimp only at hSw); go_simp; (try with_reducible rfl)))) | (refine wpAnyH_take (i := 11) (oi := ?_) (v := ?_) ?_ (by kernel_rfl) (by kernel_rfl) (by kernel_rfl) ?_ (Or.inr ⟨?_, ?_⟩) (by assumption) ?_; rotate_left 2; (· (simp only [List.getElem?_toArray, List.getElem?_cons_succ, List.getElem?_cons_zero]; first | done | rfl)); (· exact (fun _ _ _ h => h)); (· rfl); (· rfl)) | fail
          (try simp only [Act.put, List.setIfInBounds_toArray, List.set_cons_zero, List.set_cons_succ])
          refine wpAnyH_done (by kernel_rfl) ?_ _
          go_wp2_with fail
          go_ret
          exact ⟨rfl, es26_own (by assumption)⟩
end Go.Proofs.YtdggofleokjmcaaGreatDoor.Val
