/- THE WALKS OF Light, few and Event of chapter 07's laws. -/
import Derived.Test.YtdggofleokjmcaaGreatDoorFilM
import Derived.Test.YtdggofleokjmcaaGreatDoorNewOk
import Derived.Test.YtdggofleokjmcaaGreatDoorRightA
import Derived.Test.YtdggofleokjmcaaGreatDoorNew
namespace Go.Proofs.YtdggofleokjmcaaGreatDoor.Val
open Go.RowKit Flt
attribute [local go_sem] run_store_flt
set_option maxHeartbeats 2000000 in
theorem light07_any (sf : List UInt8) (a0 : Option Addr) (cap : Nat) (l : List C) (w : World) (hl : Conds w a0 l) (hlm : l.length ≤ maxLen) :
    Calls Tryz.prog 42 #[ev sf a0 l.length cap] w fun e w' => (∃ b : Bool, e = .returned (.bool b) ∧ (b = true → l.length ≤ 20)) ∧ Below w.heap.size w w' := by
  have HL := Lib.hid hl
  unfold maxLen at hlm
  clear hl
  go_enter Tryz.func42, Tryz.ntmps42
  go_wp2_with fail
  have hx1 := box2_new w sf a0 l.length cap 63
  have hbw := balloc w (.cells #[.string ⟨sf.toArray⟩, .slice a0 l.length cap] 63)
  have HX1 := Lib.hid hx1; have HBW := Lib.hid hbw
  clear hx1 hbw
  generalize w.alloc _ = W0 at *
  go_loopw [3, 12] (fun vn vi wr => ∃ (k : Nat) (z : Int), k ≤ l.length ∧ vn = .int .i64 z ∧ vi = .int .i64 k ∧ Below W0.heap.size W0 wr) (fun _ vi _ => l.length - (intOf vi).toNat)
  case atStart => exact ⟨0, _, Nat.zero_le _, rfl, rfl, Below.refl _ _⟩
  case round =>
    obtain ⟨k, z, hk, rfl, rfl, hbr⟩ := hrel
    have hbz := btrans HBW.out hbr
    have hy1 := HX1.out.below hbr
    have hs1 := hy1.lt
    obtain ⟨f0, f1⟩ := hy1
    have HBZ := Lib.hid hbz; have HBR := Lib.hid hbr
    clear hbz hbr
    by_cases hlt : k < l.length
    · have i1 : (k : Int) < (l.length : Int) := by omega
      have i0 : (0 : Int) ≤ (k : Int) := by omega
      obtain ⟨a, rfl, v0, v1, v2, v3, v4, v5, v6⟩ := (HL.out.below HBZ.out) k hlt
      go_wp2_with fail
      exact ⟨⟨k + 1, _, by omega, rfl, by go_num, btrans HBR.out (balloc _ _)⟩, by simp [intOf]; go_num⟩
    · obtain rfl : k = l.length := by omega
      cases hd : decide (z ≤ 2000)
      · go_wp2_with fail
        go_ret
        exact ⟨⟨_, rfl, fun h => by cases h⟩, HBZ.out⟩
      · go_wp2_with fail
        go_ret
        exact ⟨⟨_, rfl, fun h => by simp at h; omega⟩, HBZ.out⟩
set_option maxHeartbeats 2000000 in
theorem few07_any (a0 : Option Addr) (cap : Nat) (l : List A) (w : World) (hl : Attrs w a0 l) (hlm : l.length ≤ maxLen) :
    Calls Tryz.prog 36 #[.slice a0 l.length cap] w fun e w' => (∃ b : Bool, e = .returned (.bool b) ∧ (b = true → l.length ≤ 20)) ∧ Below w.heap.size w w' := by
  have HL := Lib.hid hl
  unfold maxLen at hlm
  clear hl
  go_enter Tryz.func36, Tryz.ntmps36
  go_wp2_with fail
  go_loopw [3, 8] (fun vn vi wr => ∃ (k : Nat) (z : Int), k ≤ l.length ∧ vn = .int .i64 z ∧ vi = .int .i64 k ∧ Below w.heap.size w wr) (fun _ vi _ => l.length - (intOf vi).toNat)
  case atStart => exact ⟨0, _, Nat.zero_le _, rfl, rfl, Below.refl _ _⟩
  case round =>
    obtain ⟨k, z, hk, rfl, rfl, hbr⟩ := hrel
    have HBR := Lib.hid hbr
    clear hbr
    by_cases hlt : k < l.length
    · have i1 : (k : Int) < (l.length : Int) := by omega
      have i0 : (0 : Int) ≤ (k : Int) := by omega
      obtain ⟨a, rfl, v0, v1, v2, v3, v4, v5⟩ := (HL.out.below HBR.out) k hlt
      go_wp2_with fail
      exact ⟨⟨k + 1, _, by omega, rfl, by go_num, btrans HBR.out (balloc _ _)⟩, by simp [intOf]; go_num⟩
    · obtain rfl : k = l.length := by omega
      cases hd : decide (z ≤ 2000)
      · go_wp2_with fail
        go_ret
        exact ⟨⟨_, rfl, fun h => by cases h⟩, HBR.out⟩
      · go_wp2_with fail
        go_ret
        exact ⟨⟨_, rfl, fun h => by simp at h; omega⟩, HBR.out⟩
theorem newB_small {l : List A} (h : ∀ x ∈ l, Open.AOk x) : ∀ a ∈ newB l, a.name.length ≤ 140737488351232 ∧ a.val.text.length ≤ 140737488351232 := fun a ha => by
  obtain ⟨x, hx, hn, hv⟩ := mem_newB ha
  have hk := h x hx
  refine ⟨by rw [← hn]; exact hk.1, ?_⟩
  have ht : x.val.text.length ≤ 140737488351232 := hk.2.2.2.2
  rw [hv]
  unfold canonV
  split
  · simp
  split
  · simp
  split
  · exact ht
  split
  · simp
  · simp
theorem one_attrs2 (w : World) (g : Nat) (hg : g = w.heap.size) (a : A) (e : TypeId) : Attrs (w.alloc (.cells #[.string ⟨a.name.toArray⟩, .int .i64 a.val.kind, .int .i64 a.val.int, .float .f64 a.val.num, .string ⟨a.val.text.toArray⟩, .bool a.val.yes] e)) (some ⟨g, 0, none⟩) [a] := by
  subst hg; exact liesA (new_attr w a e)
set_option maxRecDepth 20000 in
set_option maxHeartbeats 4000000 in
theorem event07_any (s : List UInt8) (a0 : Option Addr) (cap : Nat) (l : List A) (w : World) (hl : Attrs w a0 l) (hlm : l.length ≤ 100000) (hs : s.length ≤ 140737488351232) (hok : ∀ x ∈ l, Open.AOk x) :
    Calls Tryz.prog 37 #[.string ⟨s.toArray⟩, .slice a0 l.length cap] w fun e w' =>
      ∃ b0 cp, e = .returned (ev (evS s) b0 (evL l).length cp) ∧ Attrs w' b0 (evL l) ∧ Below w.heap.size w w' := by
  have hrt (W : World) := Sc.right_l s W hs
  have hnew (sc : List UInt8) (W : World) (h : Attrs W a0 l) := new_any sc a0 cap l W h hlm
  have hnl := newB_len l
  have hend := evK_end l
  have hsm := newB_small hok
  have hes : evS s = if Sc.rightB s then s else [] := rfl
  have HL := Lib.hid hl; have HRT := Lib.hid hrt; have HNEW := Lib.hid hnew; have HEND := Lib.hid hend; have HSM := Lib.hid hsm
  clear hl hrt hnew hend hsm hok hs
  generalize newB l = nb at *
  generalize evL l = el at *
  generalize Sc.rightB s = U at *
  generalize evS s = sc at *
  obtain ⟨i0, hi, hz0, hz1, hz2⟩ := info_parts info_attr
  cases U
  all_goals
    simp only [Bool.false_eq_true, if_false, if_true] at hes
    have HES := Lib.hid hes
    clear hes
    go_enter Tryz.func37, Tryz.ntmps37
    go_wp2_with (go_at_call 35; refine (HRT.out _).mono ?_; rintro e w5 ⟨rfl, ⟨nd, rfl⟩⟩)
    refine (HNEW.out _ _ (HL.out.below (bdrewN (balloc _ _) _))).mono ?_
    rintro e w2 ⟨b1, cp1, rfl, hat2, _, hb2⟩
    have hbw := btrans (bdrewN (balloc w (.cells #[.string ⟨#[]⟩, .slice none 0 0] 26)) nd) hb2
    have hres : ((w2.cell? ⟨w.heap.size, 0, none⟩).isSome = true ∧ (w2.cell? ⟨w.heap.size, 1, none⟩).isSome = true) ∧ w2.frozen? ⟨w.heap.size, 0, none⟩ = false ∧ w2.frozen? ⟨w.heap.size, 1, none⟩ = false ∧ w.heap.size < w2.heap.size := by
      have hs2 : w.heap.size < w2.heap.size := Nat.lt_of_lt_of_le (by show w.heap.size < (w.alloc _).heap.size; simp) hb2.size
      obtain ⟨hc2, hf2⟩ := bcell hb2
      have q0 := (hc2 w.heap.size 0 (by show w.heap.size < (w.alloc _).heap.size; simp)).trans (World.cell?_alloc_at (w := w) _ _ _ _ rfl)
      have q1 := (hc2 w.heap.size 1 (by show w.heap.size < (w.alloc _).heap.size; simp)).trans (World.cell?_alloc_at (w := w) _ _ _ _ rfl)
      have z0 := (hf2 w.heap.size 0 (by show w.heap.size < (w.alloc _).heap.size; simp)).trans (World.frozen?_alloc_at (w := w) _ _ _ _ rfl)
      have z1 := (hf2 w.heap.size 1 (by show w.heap.size < (w.alloc _).heap.size; simp)).trans (World.frozen?_alloc_at (w := w) _ _ _ _ rfl)
      exact ⟨⟨by rw [q0]; rfl, by rw [q1]; rfl⟩, z0, z1, hs2⟩
    have HRES := Lib.hid hres; have HBW := Lib.hid hbw; have HAT2 := Lib.hid hat2
    clear hres hbw hat2 hb2 HL HNEW
    go_wp2_with fail
    go_loopw [20] (fun vi wr => ∃ (kk : Nat) (v : Value), kk ≤ nb.length ∧ vi = .int .i64 kk ∧ NewAt w2.heap.size sc v (evK nb kk) wr ∧ Below w2.heap.size w2 wr) (fun vi _ => nb.length - (intOf vi).toNat)
    case atStart =>
      refine ⟨0, .slice none 0 0, Nat.zero_le _, rfl, ⟨?_, ?_, ?_, ?_, ?_, ?_, ?_, World.ownsRow_nil _ _ _ _, ?_⟩, by repeat (first | assumption | (with_reducible exact Below.refl _ _) | exact balloc _ _ | exact balloc2 _ _ _ | refine btrans ?_ (by assumption) | refine btrans ?_ (balloc _ _))⟩ <;> first | (rw [HES.out]; simp [go_sem]; done) | simp [go_sem]
    case round =>
      obtain ⟨kk, v, hk, rfl, hat, hbr⟩ := hrel
      have hsz := hat.2.2.2.2.2.2.2.2
      by_cases hlt : kk < nb.length
      · have i1 : (kk : Int) < (nb.length : Int) := by omega
        have i0' : (0 : Int) ≤ (kk : Int) := by omega
        obtain ⟨a, rfl, v0, v1, v2, v3, v4, v5⟩ := (HAT2.out.below hbr) kk hlt
        obtain ⟨ob, oc, rfl, hal⟩ := own_attrs hat.2.2.2.2.2.2.2.1
        have hl8 := evK_len nb kk
        have hef := evK_full nb kk hlt
        have hen := evK_no nb kk hlt
        have hey := evK_yes nb kk hlt
        have hsmk := HSM.out _ (List.getElem_mem hlt)
        have her (W : World) (h : Attrs W (some ⟨wr.heap.size + 1, 0, none⟩) [nb[kk]]) : Calls Tryz.prog 20 #[ev [] (some ⟨wr.heap.size + 1, 0, none⟩) 1 1] W fun e w' => e = .returned (.bool (okA nb[kk])) ∧ Below W.heap.size W w' :=
          eright_any [] _ 1 [nb[kk]] W h (by simp) (fun x hx => by rw [List.mem_singleton.1 hx]; exact hsmk)
        have hat' := hat
        obtain ⟨o0, o1, ofz, _, _, _, _, _, _⟩ := hat'
        generalize evK nb kk = acc at *
        generalize hM : okA nb[kk] = M at *
        have HAT := Lib.hid hat; have HEF := Lib.hid hef; have HEN := Lib.hid hen; have HEY := Lib.hid hey; have HER := Lib.hid her
        clear hal hat hef hen hey hsmk her hM
        have hne : w2.heap.size + 1 < wr.heap.size := by omega
        by_cases h8 : acc.length < 8
        rotate_left
        · have d1 : ¬ (acc.length : Int) < 8 := by omega
          go_wp2_with fail
          exact ⟨⟨kk + 1, _, by omega, by go_num, by rw [HEF.out h8]; exact HAT.out.below (balloc _ _), btrans hbr (balloc _ _)⟩, by simp [intOf]; go_num⟩
        · have d1 : (acc.length : Int) < 8 := by omega
          cases M
          · go_wp2_with (go_at_call 20; refine (HER.out _ (one_attrs2 (wr.alloc (.cells #[.string ⟨(nb[kk]).name.toArray⟩, .int .i64 (nb[kk]).val.kind, .int .i64 (nb[kk]).val.int, .float .f64 (nb[kk]).val.num, .string ⟨(nb[kk]).val.text.toArray⟩, .bool (nb[kk]).val.yes] 32)) _ (World.size_alloc _ _).symm _ _)).mono ?_; rintro e w4 ⟨rfl, hb4⟩)
            exact ⟨⟨kk + 1, _, by omega, by go_num, by rw [HEN.out (by trivial)]; exact (HAT.out.below (balloc2 _ _ _)).below hb4, btrans hbr (btrans (balloc2 _ _ _) hb4)⟩, by simp [intOf]; go_num⟩
          · go_wp2_with fail
            refine (HER.out _ (one_attrs2 (wr.alloc (.cells #[.string ⟨(nb[kk]).name.toArray⟩, .int .i64 (nb[kk]).val.kind, .int .i64 (nb[kk]).val.int, .float .f64 (nb[kk]).val.num, .string ⟨(nb[kk]).val.text.toArray⟩, .bool (nb[kk]).val.yes] 32)) _ (World.size_alloc _ _).symm _ _)).mono ?_; rintro e w4 ⟨rfl, hb4⟩
            have hat4 := (HAT.out.below (balloc2 wr (.cells #[.string ⟨(nb[kk]).name.toArray⟩, .int .i64 (nb[kk]).val.kind, .int .i64 (nb[kk]).val.int, .float .f64 (nb[kk]).val.num, .string ⟨(nb[kk]).val.text.toArray⟩, .bool (nb[kk]).val.yes] 32) (.cells #[.string ⟨(nb[kk]).name.toArray⟩, .int .i64 (nb[kk]).val.kind, .int .i64 (nb[kk]).val.int, .float .f64 (nb[kk]).val.num, .string ⟨(nb[kk]).val.text.toArray⟩, .bool (nb[kk]).val.yes] 32))).below hb4
            have hbr4 := btrans hbr (btrans (balloc2 wr (.cells #[.string ⟨(nb[kk]).name.toArray⟩, .int .i64 (nb[kk]).val.kind, .int .i64 (nb[kk]).val.int, .float .f64 (nb[kk]).val.num, .string ⟨(nb[kk]).val.text.toArray⟩, .bool (nb[kk]).val.yes] 32) (.cells #[.string ⟨(nb[kk]).name.toArray⟩, .int .i64 (nb[kk]).val.kind, .int .i64 (nb[kk]).val.int, .float .f64 (nb[kk]).val.num, .string ⟨(nb[kk]).val.text.toArray⟩, .bool (nb[kk]).val.yes] 32)) hb4)
            have hbx4 := ((BoxA.below (box_attr wr nb[kk] 32) (balloc _ (.cells #[.string ⟨(nb[kk]).name.toArray⟩, .int .i64 (nb[kk]).val.kind, .int .i64 (nb[kk]).val.int, .float .f64 (nb[kk]).val.num, .string ⟨(nb[kk]).val.text.toArray⟩, .bool (nb[kk]).val.yes] 32))).below hb4)
            have hs4 : wr.heap.size + 1 < w4.heap.size := size2 hb4
            have HAT4 := Lib.hid hat4; have HBR4 := Lib.hid hbr4
            obtain ⟨o0, o1, ofz, _, _, _, _, hown4, hsz4⟩ := hat4
            obtain ⟨q0, q1, q2, q3, q4, q5⟩ := hbx4
            have OWN4 := Lib.hid hown4
            clear v0 v1 v2 v3 v4 v5 hown4 hbr4 HAT HER hb4
            go_wp2_with (at_builtin; refine wpList_append_own _ rfl _ _ 22 rfl (w2.heap.size + 2) 32 i0 (.agg #[.string .empty, .int .i64 0, .int .i64 0, .float .f64 0, .string .empty, .bool false]) 6 64 Tryz.underlying22 hi hz0 hz1 hz2 rfl (by decide) (.slice ob acc.length oc) _ _ rfl (OWN4.out.alloc _) ⟨w4.heap.size, 0, none⟩ 1 1 (flatA [nb[kk]]) rfl rfl ?news (flatA_one _) (by unfold maxLen; omega) (by omega) (by simp; omega) ?_; rotate_left; (case news => exact new_attr w4 nb[kk] _); intro v' w6 hown' hgrow3 hnil3; have hown2 : w6.ownsRow (w2.heap.size + 2) 32 6 v' (acc ++ [nb[kk]]).length (flatA (acc ++ [nb[kk]])) := (by rw [flatA_app, List.length_append]; exact hown'); obtain ⟨b5, cp5, rfl, _⟩ := own_attrs hown2; have hrow : ∀ k, (Value.slice ob acc.length oc).ownBlock = some k → w2.heap.size + 2 ≤ k := (fun k hk => (OWN4.out.lt k hk).1); have hk5 := (HAT4.out.below (balloc w4 (.cells #[.string ⟨(nb[kk]).name.toArray⟩, .int .i64 (nb[kk]).val.kind, .int .i64 (nb[kk]).val.int, .float .f64 (nb[kk]).val.num, .string ⟨(nb[kk]).val.text.toArray⟩, .bool (nb[kk]).val.yes] 32))).kept hgrow3 hrow hown2; have g1 := hgrow3.block (w2.heap.size + 1) (by simp; omega) (fun e => by have := hrow _ e.symm; omega); have p1 := (World.cell?_of_block (a := ⟨w2.heap.size + 1, 1, none⟩) g1).trans ((World.cell?_alloc_past (w := w4) _ (w2.heap.size + 1) 1 (by omega)).trans o1); have pz := (World.frozen?_of_block (a := ⟨w2.heap.size + 1, 1, none⟩) g1).trans ((World.frozen?_alloc_past (w := w4) _ (w2.heap.size + 1) 1 (by omega)).trans ofz); have hbf : Below w2.heap.size w2 w6 := Below.grown (btrans HBR4.out (balloc _ _)) hgrow3 (by have := HBR4.out.size; simp; omega) (fun k hk => by have := hrow k hk; omega); have HK5 := Lib.hid hk5; have HBF := Lib.hid hbf; clear hk5 hbf hown2 hown' hgrow3 hnil3 g1 hrow o0 o1 ofz q0 q1 q2 q3 q4 q5)
            exact ⟨⟨kk + 1, _, by omega, by go_num, by rw [HEY.out h8 (by trivial)]; have hk := HK5.out; rw [show (acc ++ [nb[kk]]).length = acc.length + 1 by simp] at hk; exact hk, HBF.out.setCell (by simp) _⟩, by simp [intOf]; go_num⟩
      · have i1 : ¬ (kk : Int) < (nb.length : Int) := by omega
        obtain rfl : kk = nb.length := by omega
        rw [HEND.out] at hat
        obtain ⟨o0, o1, ofz, _, _, _, _, hown, _⟩ := hat
        obtain ⟨b0, cp, rfl, hat⟩ := own_attrs hown
        have OWN := Lib.hid hown; have HAT := Lib.hid hat; clear hown hat
        obtain ⟨⟨r0, r1⟩, rf0, rf1, hrl⟩ := HRES.out
        obtain ⟨hcr, hfr⟩ := bcell hbr
        replace r0 := (congrArg Option.isSome (hcr _ 0 hrl)).trans r0
        replace r1 := (congrArg Option.isSome (hcr _ 1 hrl)).trans r1
        replace rf0 := (hfr _ 0 hrl).trans rf0
        replace rf1 := (hfr _ 1 hrl).trans rf1
        have hbb := btrans HBW.out hbr
        obtain ⟨u0, hu0⟩ := Option.isSome_iff_exists.1 r0
        obtain ⟨u1, hu1⟩ := Option.isSome_iff_exists.1 r1
        clear r0 r1 hcr hfr hbr
        go_wp2
        have e0 : ((wr.setCell ⟨w.heap.size, 0, none⟩ (.string ⟨sc.toArray⟩)).setCell ⟨w.heap.size, 1, none⟩ (.slice b0 el.length cp)).cell? ⟨w.heap.size, 0, none⟩ = some (.string ⟨sc.toArray⟩) := (World.cell?_setCell_other _ _ _ _ (by simp)).trans (World.cell?_setCell_same _ _ _ hu0)
        have e1 : ((wr.setCell ⟨w.heap.size, 0, none⟩ (.string ⟨sc.toArray⟩)).setCell ⟨w.heap.size, 1, none⟩ (.slice b0 el.length cp)).cell? ⟨w.heap.size, 1, none⟩ = some (.slice b0 el.length cp) := World.cell?_setCell_same _ _ _ ((World.cell?_setCell_other _ _ _ _ (by simp)).trans hu1)
        have ow := ownsRow_setCell_below (a := ⟨w.heap.size, 1, none⟩) (ownsRow_setCell_below (a := ⟨w.heap.size, 0, none⟩) OWN.out (by show w.heap.size < w2.heap.size + 2; omega) (.string ⟨sc.toArray⟩)) (by show w.heap.size < w2.heap.size + 2; omega) (.slice b0 el.length cp)
        have hb9 := (hbb.setCell (p := ⟨w.heap.size, 0, none⟩) (by simp) (.string ⟨sc.toArray⟩)).setCell (p := ⟨w.heap.size, 1, none⟩) (by simp) (.slice b0 el.length cp)
        generalize World.setCell _ _ _ = W2 at *
        refine bodyPost_ret (v := ev sc b0 el.length cp) (by simp [results, Tryz.results37, go_sem, e0, e1]; try rfl) rfl ?_
        obtain ⟨b9, cp9, he, hat9⟩ := own_attrs ow
        cases he
        exact ⟨b0, ⟨cp, rfl⟩, hat9, hb9⟩
end Go.Proofs.YtdggofleokjmcaaGreatDoor.Val
