/- MERGED BY A PROGRAM OF MINE (mg.py) out of my own texts, in their order: Wr7. -/
import Derived.Test.YtpbdgbejcdncgaaMgWireAny1

section
/- A WRITER OF BYTES: a rule. -/
namespace Go.Proofs.Ytpbdgbejcdncgaa.Wire
open Go.RowKit Flt Go.Proofs.Ytpbdgbejcdncgaa.Val Go.Lib
attribute [local go_sem] run_store_flt
/-- a rule's bytes -/
def encRule (r : Pol.R) (cs : List C) : List UInt8 := [byteOf r.k.kind, byteOf r.k.tenant] ++ encText r.k.who ++ [byteOf r.br] ++ encFilter r.sc cs ++ encText r.nm ++ [byteOf r.k.pl]
set_option maxRecDepth 20000 in
set_option maxHeartbeats 8000000 in
theorem wrule_any (b : Nat) (s : List UInt8) (r : Pol.R) (cs : List C) (w w0 : World) (h : Wr w b s) (hcl : Conds w0 r.c0 cs) (hcn : r.cn = cs.length) (hb0 : Below w0.heap.size w0 w) (hle : w0.heap.size ≤ b) (hnum : ∀ c ∈ cs, c.val.num < 18446744073709551616) (hl : s.length + (encRule r cs).length ≤ 1000000) (hlm : cs.length ≤ 1000000) :
    Calls Try.prog 30 #[.pointer (some ⟨b, 0, none⟩), Pol.rv r] w fun e w' => e = .returned (.tuple #[]) ∧ Wr w' b (s ++ encRule r cs) ∧ Wrote b w w' := by
  obtain ⟨⟨kd, tn, who, pl⟩, br, sc, c0, cn, cc, nm⟩ := r
  dsimp only at *
  subst hcn
  have hbl : ∀ W, Wrote b w W → Below w0.heap.size w0 W := fun W hb => hb0.trans (hb.below h hle)
  have hlen : s.length + who.length + (encFilter sc cs).length + nm.length + 6 ≤ 1000000 := by
    unfold encRule at hl
    simp only [List.length_append, encText_len, List.length_cons, List.length_nil] at hl
    omega
  have HE := Lib.hid (show encRule ⟨⟨kd, tn, who, pl⟩, br, sc, c0, cs.length, cc, nm⟩ cs = [byteOf kd, byteOf tn] ++ encText who ++ [byteOf br] ++ encFilter sc cs ++ encText nm ++ [byteOf pl] from rfl)
  have HH := Lib.hid h; have HCL := Lib.hid hcl; have HNUM := Lib.hid hnum; have HBL := Lib.hid hbl
  clear h hcl hb0 hnum hl hbl
  go_enter Try.func30, Try.ntmps30
  go_upto_region 1 with fail
  have hal := balloc w (.cells #[.int .i64 kd, .int .i64 tn, .string ⟨who.toArray⟩, .int .i64 br, .string ⟨sc.toArray⟩, .slice c0 cs.length cc, .string ⟨nm.toArray⟩, .int .i64 pl] 28)
  have hsz : w.heap.size < (w.alloc (.cells #[.int .i64 kd, .int .i64 tn, .string ⟨who.toArray⟩, .int .i64 br, .string ⟨sc.toArray⟩, .slice c0 cs.length cc, .string ⟨nm.toArray⟩, .int .i64 pl] 28)).heap.size := by simp
  have hcl8 : ∀ o, (w.alloc (.cells #[.int .i64 kd, .int .i64 tn, .string ⟨who.toArray⟩, .int .i64 br, .string ⟨sc.toArray⟩, .slice c0 cs.length cc, .string ⟨nm.toArray⟩, .int .i64 pl] 28)).cell? ⟨w.heap.size, o, none⟩ = #[.int .i64 kd, .int .i64 tn, .string ⟨who.toArray⟩, .int .i64 br, .string ⟨sc.toArray⟩, .slice c0 cs.length cc, .string ⟨nm.toArray⟩, .int .i64 pl][o]? := fun o => World.cell?_alloc_at _ _ _ _ rfl
  generalize w.alloc _ = W0 at *
  have hfr := HH.out.free_new hal (Nat.le_refl _) hsz
  have hwt0 := wrote_below HH.out.lt hal
  have hsall : ∀ W, Wrote b W0 W → (fun w' => w'.cell? ⟨w.heap.size, 0, none⟩ = some (.int .i64 kd) ∧ w'.cell? ⟨w.heap.size, 1, none⟩ = some (.int .i64 tn) ∧ w'.cell? ⟨w.heap.size, 2, none⟩ = some (.string ⟨who.toArray⟩) ∧ w'.cell? ⟨w.heap.size, 3, none⟩ = some (.int .i64 br) ∧ w'.cell? ⟨w.heap.size, 4, none⟩ = some (.string ⟨sc.toArray⟩) ∧ w'.cell? ⟨w.heap.size, 5, none⟩ = some (.slice c0 cs.length cc) ∧ w'.cell? ⟨w.heap.size, 6, none⟩ = some (.string ⟨nm.toArray⟩) ∧ w'.cell? ⟨w.heap.size, 7, none⟩ = some (.int .i64 pl)) W := fun W hb => ⟨(hb.cell hfr 0).trans (hcl8 0), (hb.cell hfr 1).trans (hcl8 1), (hb.cell hfr 2).trans (hcl8 2), (hb.cell hfr 3).trans (hcl8 3), (hb.cell hfr 4).trans (hcl8 4), (hb.cell hfr 5).trans (hcl8 5), (hb.cell hfr 6).trans (hcl8 6), (hb.cell hfr 7).trans (hcl8 7)⟩
  have HSALL := Lib.hid hsall; have HWT0 := Lib.hid hwt0; have HWR := Lib.hid (HH.out.below hal)
  clear hsall hwt0 hfr hal hsz hcl8
  refine wp_region_held_drew (S := (fun w' => w'.cell? ⟨w.heap.size, 0, none⟩ = some (.int .i64 kd) ∧ w'.cell? ⟨w.heap.size, 1, none⟩ = some (.int .i64 tn) ∧ w'.cell? ⟨w.heap.size, 2, none⟩ = some (.string ⟨who.toArray⟩) ∧ w'.cell? ⟨w.heap.size, 3, none⟩ = some (.int .i64 br) ∧ w'.cell? ⟨w.heap.size, 4, none⟩ = some (.string ⟨sc.toArray⟩) ∧ w'.cell? ⟨w.heap.size, 5, none⟩ = some (.slice c0 cs.length cc) ∧ w'.cell? ⟨w.heap.size, 6, none⟩ = some (.string ⟨nm.toArray⟩) ∧ w'.cell? ⟨w.heap.size, 7, none⟩ = some (.int .i64 pl))) (by kernel_rfl) ?_ (fun hq0 => ?_)
  · exact HSALL.out _ (wrote_drew b W0)
  have HBB : Hid (Wrote b W0 W0.drew) := Lib.hid (wrote_drew b W0)
  replace HWR := Lib.hid (wr_drew HWR.out)
  generalize W0.drew = D0 at *
  (refine wpAnyH_take (i := 0) (oi := ?_) (v := ?_) ?_ (by kernel_rfl) (by kernel_rfl) (by kernel_rfl) ?_ (Or.inl ⟨?_, ?_⟩) (by assumption) ?_; rotate_left 2; (· (simp only [List.getElem?_toArray, List.getElem?_cons_zero]; first | done | rfl)); (· exact (fun _ _ _ h => h)); (· rfl); (· (intro w hSw; (try dsimp only at hSw); go_simp; (try with_reducible rfl))))
  (try simp only [Act.put, List.setIfInBounds_toArray, List.set_cons_zero, List.set_cons_succ])
  (refine wpAnyH_take (i := 1) (oi := ?_) (v := ?_) ?_ (by kernel_rfl) (by kernel_rfl) (by kernel_rfl) ?_ (Or.inl ⟨?_, ?_⟩) (by assumption) ?_; rotate_left 2; (· (simp only [List.getElem?_toArray, List.getElem?_cons_succ, List.getElem?_cons_zero]; first | done | rfl)); (· exact (fun _ _ _ h => h)); (· rfl); (· (intro w hSw; (try dsimp only at hSw); go_simp; (try with_reducible rfl))))
  (try simp only [Act.put, List.setIfInBounds_toArray, List.set_cons_zero, List.set_cons_succ])
  (refine wpAnyH_take (i := 2) (oi := ?_) (v := ?_) ?_ (by kernel_rfl) (by kernel_rfl) (by kernel_rfl) ?_ (Or.inl ⟨?_, ?_⟩) (by assumption) ?_; rotate_left 2; (· (simp only [List.getElem?_toArray, List.getElem?_cons_succ, List.getElem?_cons_zero]; first | done | rfl)); (· exact (fun _ _ _ h => h)); (· rfl); (· (intro w hSw; (try dsimp only at hSw); go_simp; (try with_reducible rfl))))
  (try simp only [Act.put, List.setIfInBounds_toArray, List.set_cons_zero, List.set_cons_succ])
  (refine wpAnyH_take (i := 3) (oi := ?_) (v := ?_) ?_ (by kernel_rfl) (by kernel_rfl) (by kernel_rfl) ?_ (Or.inl ⟨?_, ?_⟩) (by assumption) ?_; rotate_left 2; (· (simp only [List.getElem?_toArray, List.getElem?_cons_succ, List.getElem?_cons_zero]; first | done | rfl)); (· exact (fun _ _ _ h => h)); (· rfl); (· (intro w hSw; (try dsimp only at hSw); go_simp; (try with_reducible rfl))))
  (try simp only [Act.put, List.setIfInBounds_toArray, List.set_cons_zero, List.set_cons_succ])
  (refine wpAnyH_take (i := 4) (oi := ?_) (v := ?_) ?_ (by kernel_rfl) (by kernel_rfl) (by kernel_rfl) ?_ (Or.inl ⟨?_, ?_⟩) (by assumption) ?_; rotate_left 2; (· (simp only [List.getElem?_toArray, List.getElem?_cons_succ, List.getElem?_cons_zero]; first | done | rfl)); (· exact (fun _ _ _ h => h)); (· rfl); (· (intro w hSw; (try dsimp only at hSw); go_simp; (try with_reducible rfl))))
  (try simp only [Act.put, List.setIfInBounds_toArray, List.set_cons_zero, List.set_cons_succ])
  (refine wpAnyH_take (i := 7) (oi := ?_) (v := ?_) ?_ (by kernel_rfl) (by kernel_rfl) (by kernel_rfl) ?_ (Or.inl ⟨?_, ?_⟩) (by assumption) ?_; rotate_left 2; (· (simp only [List.getElem?_toArray, List.getElem?_cons_succ, List.getElem?_cons_zero]; first | done | rfl)); (· exact (fun _ _ _ h => h)); (· rfl); (· (intro w hSw; (try dsimp only at hSw); go_simp; (try with_reducible rfl))))
  (try simp only [Act.put, List.setIfInBounds_toArray, List.set_cons_zero, List.set_cons_succ])
  (refine wpAnyH_take (i := 8) (oi := ?_) (v := ?_) ?_ (by kernel_rfl) (by kernel_rfl) (by kernel_rfl) ?_ (Or.inl ⟨?_, ?_⟩) (by assumption) ?_; rotate_left 2; (· (simp only [List.getElem?_toArray, List.getElem?_cons_succ, List.getElem?_cons_zero]; first | done | rfl)); (· exact (fun _ _ _ h => h)); (· rfl); (· (intro w hSw; (try dsimp only at hSw); go_simp; (try with_reducible rfl))))
  (try simp only [Act.put, List.setIfInBounds_toArray, List.set_cons_zero, List.set_cons_succ])
  (refine wpAnyH_take (i := 10) (oi := ?_) (v := ?_) ?_ (by kernel_rfl) (by kernel_rfl) (by kernel_rfl) ?_ (Or.inl ⟨?_, ?_⟩) (by assumption) ?_; rotate_left 2; (· (simp only [List.getElem?_toArray, List.getElem?_cons_succ, List.getElem?_cons_zero]; first | done | rfl)); (· exact (fun _ _ _ h => h)); (· rfl); (· (intro w hSw; (try dsimp only at hSw); go_simp; (try with_reducible rfl))))
  (try simp only [Act.put, List.setIfInBounds_toArray, List.set_cons_zero, List.set_cons_succ])
  (refine wpAnyH_take (i := 11) (oi := ?_) (v := ?_) ?_ (by kernel_rfl) (by kernel_rfl) (by kernel_rfl) ?_ (Or.inl ⟨?_, ?_⟩) (by assumption) ?_; rotate_left 2; (· (simp only [List.getElem?_toArray, List.getElem?_cons_succ, List.getElem?_cons_zero]; first | done | rfl)); (· exact (fun _ _ _ h => h)); (· rfl); (· (intro w hSw; (try dsimp only at hSw); go_simp; (try with_reducible rfl))))
  (try simp only [Act.put, List.setIfInBounds_toArray, List.set_cons_zero, List.set_cons_succ])
  (refine wpAnyH_take (i := 14) (oi := ?_) (v := ?_) ?_ (by kernel_rfl) (by kernel_rfl) (by kernel_rfl) ?_ (Or.inl ⟨?_, ?_⟩) (by assumption) ?_; rotate_left 2; (· (simp only [List.getElem?_toArray, List.getElem?_cons_succ, List.getElem?_cons_zero]; first | done | rfl)); (· exact (fun _ _ _ h => h)); (· rfl); (· (intro w hSw; (try dsimp only at hSw); go_simp; (try with_reducible rfl))))
  (try simp only [Act.put, List.setIfInBounds_toArray, List.set_cons_zero, List.set_cons_succ])
  (refine wpAnyH_take (i := 15) (oi := ?_) (v := ?_) ?_ (by kernel_rfl) (by kernel_rfl) (by kernel_rfl) ?_ (Or.inl ⟨?_, ?_⟩) (by assumption) ?_; rotate_left 2; (· (simp only [List.getElem?_toArray, List.getElem?_cons_succ, List.getElem?_cons_zero]; first | done | rfl)); (· exact (fun _ _ _ h => h)); (· rfl); (· (intro w hSw; (try dsimp only at hSw); go_simp; (try with_reducible rfl))))
  (try simp only [Act.put, List.setIfInBounds_toArray, List.set_cons_zero, List.set_cons_succ])
  (refine wpAnyH_take (i := 17) (oi := ?_) (v := ?_) ?_ (by kernel_rfl) (by kernel_rfl) (by kernel_rfl) ?_ (Or.inl ⟨?_, ?_⟩) (by assumption) ?_; rotate_left 2; (· (simp only [List.getElem?_toArray, List.getElem?_cons_succ, List.getElem?_cons_zero]; first | done | rfl)); (· exact (fun _ _ _ h => h)); (· rfl); (· (intro w hSw; (try dsimp only at hSw); go_simp; (try with_reducible rfl))))
  (try simp only [Act.put, List.setIfInBounds_toArray, List.set_cons_zero, List.set_cons_succ])
  (refine wpAnyH_take (i := 18) (oi := ?_) (v := ?_) ?_ (by kernel_rfl) (by kernel_rfl) (by kernel_rfl) ?_ (Or.inl ⟨?_, ?_⟩) (by assumption) ?_; rotate_left 2; (· (simp only [List.getElem?_toArray, List.getElem?_cons_succ, List.getElem?_cons_zero]; first | done | rfl)); (· exact (fun _ _ _ h => h)); (· rfl); (· (intro w hSw; (try dsimp only at hSw); go_simp; (try with_reducible rfl))))
  (try simp only [Act.put, List.setIfInBounds_toArray, List.set_cons_zero, List.set_cons_succ])
  (refine wpAnyH_take (i := 20) (oi := ?_) (v := ?_) ?_ (by kernel_rfl) (by kernel_rfl) (by kernel_rfl) ?_ (Or.inl ⟨?_, ?_⟩) (by assumption) ?_; rotate_left 2; (· (simp only [List.getElem?_toArray, List.getElem?_cons_succ, List.getElem?_cons_zero]; first | done | rfl)); (· exact (fun _ _ _ h => h)); (· rfl); (· (intro w hSw; (try dsimp only at hSw); go_simp; (try with_reducible rfl))))
  (try simp only [Act.put, List.setIfInBounds_toArray, List.set_cons_zero, List.set_cons_succ])
  (refine wpAnyH_take (i := 21) (oi := ?_) (v := ?_) ?_ (by kernel_rfl) (by kernel_rfl) (by kernel_rfl) ?_ (Or.inl ⟨?_, ?_⟩) (by assumption) ?_; rotate_left 2; (· (simp only [List.getElem?_toArray, List.getElem?_cons_succ, List.getElem?_cons_zero]; first | done | rfl)); (· exact (fun _ _ _ h => h)); (· rfl); (· (intro w hSw; (try dsimp only at hSw); go_simp; (try with_reducible rfl))))
  (try simp only [Act.put, List.setIfInBounds_toArray, List.set_cons_zero, List.set_cons_succ])
  refine wpAnyH_ready (rs := [5, 12, 22]) (by kernel_rfl) (by simp) ?_
  refine AllReadyH.cons (o := ?_) ?_ (fun K hK => ?_) ?_
  rotate_left 1
  · (simp only [List.getElem?_toArray, List.getElem?_cons_succ, List.getElem?_cons_zero]; first | done | rfl)
  rotate_left 1
  refine AllReadyH.cons (o := ?_) ?_ (fun K hK => ?_) ?_
  rotate_left 1
  · (simp only [List.getElem?_toArray, List.getElem?_cons_succ, List.getElem?_cons_zero]; first | done | rfl)
  rotate_left 1
  refine AllReadyH.cons (o := ?_) ?_ (fun K hK => ?_) AllReadyH.nil
  rotate_left 1
  · (simp only [List.getElem?_toArray, List.getElem?_cons_succ, List.getElem?_cons_zero]; first | done | rfl)
  rotate_left 1
  · skip
    go_simp
    refine hK.out _ _ ?_ (fun hq1 => ?_)
    · exact HSALL.out _ (HBB.out.trans (wrote_below HWR.out.lt (balloc _ _)))
    clear hK K
    (try simp only [Act.put, List.setIfInBounds_toArray, List.set_cons_zero, List.set_cons_succ])
    clear hq0
    generalize hD : World.alloc D0 _ = D1 at hq1 ⊢
    have hb : Below D0.heap.size D0 D1 := by rw [← hD]; exact balloc _ _
    have Vp := Lib.hid (va_two kd tn 3 HWR.out); rw [hD] at Vp
    clear hD
    have ht := wrote_below HWR.out.lt hb
    replace HBB := Lib.hid (HBB.out.trans ht)
    replace HWR := Lib.hid (HWR.out.below hb)
    clear hb ht
    generalize D0.heap.size = p at *
    refine wpAnyH_ready (rs := [6, 12, 22]) (by kernel_rfl) (by simp) ?_
    refine AllReadyH.cons (o := ?_) ?_ (fun K hK => ?_) ?_
    rotate_left 1
    · (simp only [List.getElem?_toArray, List.getElem?_cons_succ, List.getElem?_cons_zero]; first | done | rfl)
    rotate_left 1
    refine AllReadyH.cons (o := ?_) ?_ (fun K hK => ?_) ?_
    rotate_left 1
    · (simp only [List.getElem?_toArray, List.getElem?_cons_succ, List.getElem?_cons_zero]; first | done | rfl)
    rotate_left 1
    refine AllReadyH.cons (o := ?_) ?_ (fun K hK => ?_) AllReadyH.nil
    rotate_left 1
    · (simp only [List.getElem?_toArray, List.getElem?_cons_succ, List.getElem?_cons_zero]; first | done | rfl)
    rotate_left 1
    · skip
      go_simp
      go_at_call 29
      refine (wbyte_va HWR.out Vp.out (by simp; omega)).mono ?_
      rintro e D2 ⟨rfl, hwr, hwt⟩
      first | (refine hK.out _ _ ?_ (fun hq2 => ?_)) | (go_wp2_with fail; refine hK.out _ _ ?_ (fun hq2 => ?_))
      · exact HSALL.out _ (HBB.out.trans hwt)
      clear hK K
      (try simp only [Act.put, List.setIfInBounds_toArray, List.set_cons_zero, List.set_cons_succ])
      clear hq1
      replace Vp := Lib.hid (Vp.out.wrote hwt)
      replace HBB := Lib.hid (HBB.out.trans hwt)
      replace HWR := Lib.hid hwr
      clear hwr hwt
      refine wpAnyH_ready (rs := [9, 12, 22]) (by kernel_rfl) (by simp) ?_
      refine AllReadyH.cons (o := ?_) ?_ (fun K hK => ?_) ?_
      rotate_left 1
      · (simp only [List.getElem?_toArray, List.getElem?_cons_succ, List.getElem?_cons_zero]; first | done | rfl)
      rotate_left 1
      refine AllReadyH.cons (o := ?_) ?_ (fun K hK => ?_) ?_
      rotate_left 1
      · (simp only [List.getElem?_toArray, List.getElem?_cons_succ, List.getElem?_cons_zero]; first | done | rfl)
      rotate_left 1
      refine AllReadyH.cons (o := ?_) ?_ (fun K hK => ?_) AllReadyH.nil
      rotate_left 1
      · (simp only [List.getElem?_toArray, List.getElem?_cons_succ, List.getElem?_cons_zero]; first | done | rfl)
      rotate_left 1
      · skip
        go_simp
        go_at_call 31
        refine (wtext_any b _ who _ HWR.out (by simp; omega)).mono ?_
        rintro e D3 ⟨rfl, hwr, hwt⟩
        first | (refine hK.out _ _ ?_ (fun hq3 => ?_)) | (go_wp2_with fail; refine hK.out _ _ ?_ (fun hq3 => ?_))
        · exact HSALL.out _ (HBB.out.trans hwt)
        clear hK K
        (try simp only [Act.put, List.setIfInBounds_toArray, List.set_cons_zero, List.set_cons_succ])
        clear hq2
        replace Vp := Lib.hid (Vp.out.wrote hwt)
        replace HBB := Lib.hid (HBB.out.trans hwt)
        replace HWR := Lib.hid hwr
        clear hwr hwt
        refine wpAnyH_ready (rs := [12, 22]) (by kernel_rfl) (by simp) ?_
        refine AllReadyH.cons (o := ?_) ?_ (fun K hK => ?_) ?_
        rotate_left 1
        · (simp only [List.getElem?_toArray, List.getElem?_cons_succ, List.getElem?_cons_zero]; first | done | rfl)
        rotate_left 1
        refine AllReadyH.cons (o := ?_) ?_ (fun K hK => ?_) AllReadyH.nil
        rotate_left 1
        · (simp only [List.getElem?_toArray, List.getElem?_cons_succ, List.getElem?_cons_zero]; first | done | rfl)
        rotate_left 1
        · skip
          go_simp
          refine hK.out _ _ ?_ (fun hq4 => ?_)
          · exact HSALL.out _ (HBB.out.trans (wrote_below HWR.out.lt (balloc _ _)))
          clear hK K
          (try simp only [Act.put, List.setIfInBounds_toArray, List.set_cons_zero, List.set_cons_succ])
          clear hq3
          generalize hD : World.alloc D3 _ = D4 at hq4 ⊢
          have hb : Below D3.heap.size D3 D4 := by rw [← hD]; exact balloc _ _
          have Vq := Lib.hid (va_one br 3 HWR.out); rw [hD] at Vq
          clear hD
          have ht := wrote_below HWR.out.lt hb
          replace Vp := Lib.hid (Vp.out.wrote ht)
          replace HBB := Lib.hid (HBB.out.trans ht)
          replace HWR := Lib.hid (HWR.out.below hb)
          clear hb ht
          generalize D3.heap.size = q at *
          refine wpAnyH_ready (rs := [13, 22]) (by kernel_rfl) (by simp) ?_
          refine AllReadyH.cons (o := ?_) ?_ (fun K hK => ?_) ?_
          rotate_left 1
          · (simp only [List.getElem?_toArray, List.getElem?_cons_succ, List.getElem?_cons_zero]; first | done | rfl)
          rotate_left 1
          refine AllReadyH.cons (o := ?_) ?_ (fun K hK => ?_) AllReadyH.nil
          rotate_left 1
          · (simp only [List.getElem?_toArray, List.getElem?_cons_succ, List.getElem?_cons_zero]; first | done | rfl)
          rotate_left 1
          · skip
            go_simp
            go_at_call 29
            refine (wbyte_va HWR.out Vq.out (by simp [encText_len]; omega)).mono ?_
            rintro e D5 ⟨rfl, hwr, hwt⟩
            first | (refine hK.out _ _ ?_ (fun hq5 => ?_)) | (go_wp2_with fail; refine hK.out _ _ ?_ (fun hq5 => ?_))
            · exact HSALL.out _ (HBB.out.trans hwt)
            clear hK K
            (try simp only [Act.put, List.setIfInBounds_toArray, List.set_cons_zero, List.set_cons_succ])
            clear hq4
            replace Vp := Lib.hid (Vp.out.wrote hwt)
            replace Vq := Lib.hid (Vq.out.wrote hwt)
            replace HBB := Lib.hid (HBB.out.trans hwt)
            replace HWR := Lib.hid hwr
            clear hwr hwt
            refine wpAnyH_ready (rs := [16, 22]) (by kernel_rfl) (by simp) ?_
            refine AllReadyH.cons (o := ?_) ?_ (fun K hK => ?_) ?_
            rotate_left 1
            · (simp only [List.getElem?_toArray, List.getElem?_cons_succ, List.getElem?_cons_zero]; first | done | rfl)
            rotate_left 1
            refine AllReadyH.cons (o := ?_) ?_ (fun K hK => ?_) AllReadyH.nil
            rotate_left 1
            · (simp only [List.getElem?_toArray, List.getElem?_cons_succ, List.getElem?_cons_zero]; first | done | rfl)
            rotate_left 1
            · skip
              go_simp
              go_at_call 14
              refine (wfilter_any b _ sc c0 cc cs _ w0 HWR.out HCL.out (HBL.out _ (HWT0.out.trans HBB.out)) hle HNUM.out (by simp [encText_len]; omega) hlm).mono ?_
              rintro e D6 ⟨rfl, hwr, hwt⟩
              first | (refine hK.out _ _ ?_ (fun hq6 => ?_)) | (go_wp2_with fail; refine hK.out _ _ ?_ (fun hq6 => ?_))
              · exact HSALL.out _ (HBB.out.trans hwt)
              clear hK K
              (try simp only [Act.put, List.setIfInBounds_toArray, List.set_cons_zero, List.set_cons_succ])
              clear hq5
              replace Vp := Lib.hid (Vp.out.wrote hwt)
              replace Vq := Lib.hid (Vq.out.wrote hwt)
              replace HBB := Lib.hid (HBB.out.trans hwt)
              replace HWR := Lib.hid hwr
              clear hwr hwt
              refine wpAnyH_ready (rs := [19, 22]) (by kernel_rfl) (by simp) ?_
              refine AllReadyH.cons (o := ?_) ?_ (fun K hK => ?_) ?_
              rotate_left 1
              · (simp only [List.getElem?_toArray, List.getElem?_cons_succ, List.getElem?_cons_zero]; first | done | rfl)
              rotate_left 1
              refine AllReadyH.cons (o := ?_) ?_ (fun K hK => ?_) AllReadyH.nil
              rotate_left 1
              · (simp only [List.getElem?_toArray, List.getElem?_cons_succ, List.getElem?_cons_zero]; first | done | rfl)
              rotate_left 1
              · skip
                go_simp
                go_at_call 31
                refine (wtext_any b _ nm _ HWR.out (by simp [encText_len]; omega)).mono ?_
                rintro e D7 ⟨rfl, hwr, hwt⟩
                first | (refine hK.out _ _ ?_ (fun hq7 => ?_)) | (go_wp2_with fail; refine hK.out _ _ ?_ (fun hq7 => ?_))
                · exact HSALL.out _ (HBB.out.trans hwt)
                clear hK K
                (try simp only [Act.put, List.setIfInBounds_toArray, List.set_cons_zero, List.set_cons_succ])
                clear hq6
                replace Vp := Lib.hid (Vp.out.wrote hwt)
                replace Vq := Lib.hid (Vq.out.wrote hwt)
                replace HBB := Lib.hid (HBB.out.trans hwt)
                replace HWR := Lib.hid hwr
                clear hwr hwt
                refine wpAnyH_ready (rs := [22]) (by kernel_rfl) (by simp) ?_
                refine AllReadyH.cons (o := ?_) ?_ (fun K hK => ?_) AllReadyH.nil
                rotate_left 1
                · (simp only [List.getElem?_toArray, List.getElem?_cons_succ, List.getElem?_cons_zero]; first | done | rfl)
                go_simp
                refine hK.out _ _ ?_ (fun hq8 => ?_)
                · exact HSALL.out _ (HBB.out.trans (wrote_below HWR.out.lt (balloc _ _)))
                clear hK K
                (try simp only [Act.put, List.setIfInBounds_toArray, List.set_cons_zero, List.set_cons_succ])
                clear hq7
                generalize hD : World.alloc D7 _ = D8 at hq8 ⊢
                have hb : Below D7.heap.size D7 D8 := by rw [← hD]; exact balloc _ _
                have Vr := Lib.hid (va_one pl 3 HWR.out); rw [hD] at Vr
                clear hD
                have ht := wrote_below HWR.out.lt hb
                replace Vp := Lib.hid (Vp.out.wrote ht)
                replace Vq := Lib.hid (Vq.out.wrote ht)
                replace HBB := Lib.hid (HBB.out.trans ht)
                replace HWR := Lib.hid (HWR.out.below hb)
                clear hb ht
                generalize D7.heap.size = r at *
                refine wpAnyH_ready (rs := [23]) (by kernel_rfl) (by simp) ?_
                refine AllReadyH.cons (o := ?_) ?_ (fun K hK => ?_) AllReadyH.nil
                rotate_left 1
                · (simp only [List.getElem?_toArray, List.getElem?_cons_succ, List.getElem?_cons_zero]; first | done | rfl)
                go_simp
                go_at_call 29
                refine (wbyte_va HWR.out Vr.out (by simp [encText_len]; omega)).mono ?_
                rintro e D9 ⟨rfl, hwr, hwt⟩
                first | (refine hK.out _ _ ?_ (fun hq9 => ?_)) | (go_wp2_with fail; refine hK.out _ _ ?_ (fun hq9 => ?_))
                · exact HSALL.out _ (HBB.out.trans hwt)
                clear hK K
                (try simp only [Act.put, List.setIfInBounds_toArray, List.set_cons_zero, List.set_cons_succ])
                clear hq8
                replace Vp := Lib.hid (Vp.out.wrote hwt)
                replace Vq := Lib.hid (Vq.out.wrote hwt)
                replace Vr := Lib.hid (Vr.out.wrote hwt)
                replace HBB := Lib.hid (HBB.out.trans hwt)
                replace HWR := Lib.hid hwr
                clear hwr hwt
                refine wpAnyH_done (by kernel_rfl) ?_ _
                go_wp2_with fail
                first | go_end0 | refine bodyPost_ret (results_none rfl _ _ _) rfl ?_
                exact ⟨rfl, by rw [HE.out]; simpa only [List.append_assoc, List.map_cons, List.map_nil] using HWR.out, HWT0.out.trans HBB.out⟩
              · skip
                go_simp
                refine hK.out _ _ ?_ (fun hq7 => ?_)
                · exact HSALL.out _ (HBB.out.trans (wrote_below HWR.out.lt (balloc _ _)))
                clear hK K
                (try simp only [Act.put, List.setIfInBounds_toArray, List.set_cons_zero, List.set_cons_succ])
                clear hq6
                generalize hD : World.alloc D6 _ = D10 at hq7 ⊢
                have hb : Below D6.heap.size D6 D10 := by rw [← hD]; exact balloc _ _
                have Vr := Lib.hid (va_one pl 3 HWR.out); rw [hD] at Vr
                clear hD
                have ht := wrote_below HWR.out.lt hb
                replace Vp := Lib.hid (Vp.out.wrote ht)
                replace Vq := Lib.hid (Vq.out.wrote ht)
                replace HBB := Lib.hid (HBB.out.trans ht)
                replace HWR := Lib.hid (HWR.out.below hb)
                clear hb ht
                generalize D6.heap.size = r at *
                refine wpAnyH_ready (rs := [19]) (by kernel_rfl) (by simp) ?_
                refine AllReadyH.cons (o := ?_) ?_ (fun K hK => ?_) AllReadyH.nil
                rotate_left 1
                · (simp only [List.getElem?_toArray, List.getElem?_cons_succ, List.getElem?_cons_zero]; first | done | rfl)
                go_simp
                go_at_call 31
                refine (wtext_any b _ nm _ HWR.out (by simp [encText_len]; omega)).mono ?_
                rintro e D11 ⟨rfl, hwr, hwt⟩
                first | (refine hK.out _ _ ?_ (fun hq8 => ?_)) | (go_wp2_with fail; refine hK.out _ _ ?_ (fun hq8 => ?_))
                · exact HSALL.out _ (HBB.out.trans hwt)
                clear hK K
                (try simp only [Act.put, List.setIfInBounds_toArray, List.set_cons_zero, List.set_cons_succ])
                clear hq7
                replace Vp := Lib.hid (Vp.out.wrote hwt)
                replace Vq := Lib.hid (Vq.out.wrote hwt)
                replace Vr := Lib.hid (Vr.out.wrote hwt)
                replace HBB := Lib.hid (HBB.out.trans hwt)
                replace HWR := Lib.hid hwr
                clear hwr hwt
                refine wpAnyH_ready (rs := [23]) (by kernel_rfl) (by simp) ?_
                refine AllReadyH.cons (o := ?_) ?_ (fun K hK => ?_) AllReadyH.nil
                rotate_left 1
                · (simp only [List.getElem?_toArray, List.getElem?_cons_succ, List.getElem?_cons_zero]; first | done | rfl)
                go_simp
                go_at_call 29
                refine (wbyte_va HWR.out Vr.out (by simp [encText_len]; omega)).mono ?_
                rintro e D12 ⟨rfl, hwr, hwt⟩
                first | (refine hK.out _ _ ?_ (fun hq9 => ?_)) | (go_wp2_with fail; refine hK.out _ _ ?_ (fun hq9 => ?_))
                · exact HSALL.out _ (HBB.out.trans hwt)
                clear hK K
                (try simp only [Act.put, List.setIfInBounds_toArray, List.set_cons_zero, List.set_cons_succ])
                clear hq8
                replace Vp := Lib.hid (Vp.out.wrote hwt)
                replace Vq := Lib.hid (Vq.out.wrote hwt)
                replace Vr := Lib.hid (Vr.out.wrote hwt)
                replace HBB := Lib.hid (HBB.out.trans hwt)
                replace HWR := Lib.hid hwr
                clear hwr hwt
                refine wpAnyH_done (by kernel_rfl) ?_ _
                go_wp2_with fail
                first | go_end0 | refine bodyPost_ret (results_none rfl _ _ _) rfl ?_
                exact ⟨rfl, by rw [HE.out]; simpa only [List.append_assoc, List.map_cons, List.map_nil] using HWR.out, HWT0.out.trans HBB.out⟩
            · skip
              go_simp
              refine hK.out _ _ ?_ (fun hq6 => ?_)
              · exact HSALL.out _ (HBB.out.trans (wrote_below HWR.out.lt (balloc _ _)))
              clear hK K
              (try simp only [Act.put, List.setIfInBounds_toArray, List.set_cons_zero, List.set_cons_succ])
              clear hq5
              generalize hD : World.alloc D5 _ = D13 at hq6 ⊢
              have hb : Below D5.heap.size D5 D13 := by rw [← hD]; exact balloc _ _
              have Vr := Lib.hid (va_one pl 3 HWR.out); rw [hD] at Vr
              clear hD
              have ht := wrote_below HWR.out.lt hb
              replace Vp := Lib.hid (Vp.out.wrote ht)
              replace Vq := Lib.hid (Vq.out.wrote ht)
              replace HBB := Lib.hid (HBB.out.trans ht)
              replace HWR := Lib.hid (HWR.out.below hb)
              clear hb ht
              generalize D5.heap.size = r at *
              refine wpAnyH_ready (rs := [16]) (by kernel_rfl) (by simp) ?_
              refine AllReadyH.cons (o := ?_) ?_ (fun K hK => ?_) AllReadyH.nil
              rotate_left 1
              · (simp only [List.getElem?_toArray, List.getElem?_cons_succ, List.getElem?_cons_zero]; first | done | rfl)
              go_simp
              go_at_call 14
              refine (wfilter_any b _ sc c0 cc cs _ w0 HWR.out HCL.out (HBL.out _ (HWT0.out.trans HBB.out)) hle HNUM.out (by simp [encText_len]; omega) hlm).mono ?_
              rintro e D14 ⟨rfl, hwr, hwt⟩
              first | (refine hK.out _ _ ?_ (fun hq7 => ?_)) | (go_wp2_with fail; refine hK.out _ _ ?_ (fun hq7 => ?_))
              · exact HSALL.out _ (HBB.out.trans hwt)
              clear hK K
              (try simp only [Act.put, List.setIfInBounds_toArray, List.set_cons_zero, List.set_cons_succ])
              clear hq6
              replace Vp := Lib.hid (Vp.out.wrote hwt)
              replace Vq := Lib.hid (Vq.out.wrote hwt)
              replace Vr := Lib.hid (Vr.out.wrote hwt)
              replace HBB := Lib.hid (HBB.out.trans hwt)
              replace HWR := Lib.hid hwr
              clear hwr hwt
              refine wpAnyH_ready (rs := [19]) (by kernel_rfl) (by simp) ?_
              refine AllReadyH.cons (o := ?_) ?_ (fun K hK => ?_) AllReadyH.nil
              rotate_left 1
              · (simp only [List.getElem?_toArray, List.getElem?_cons_succ, List.getElem?_cons_zero]; first | done | rfl)
              go_simp
              go_at_call 31
              refine (wtext_any b _ nm _ HWR.out (by simp [encText_len]; omega)).mono ?_
              rintro e D15 ⟨rfl, hwr, hwt⟩
              first | (refine hK.out _ _ ?_ (fun hq8 => ?_)) | (go_wp2_with fail; refine hK.out _ _ ?_ (fun hq8 => ?_))
              · exact HSALL.out _ (HBB.out.trans hwt)
              clear hK K
              (try simp only [Act.put, List.setIfInBounds_toArray, List.set_cons_zero, List.set_cons_succ])
              clear hq7
              replace Vp := Lib.hid (Vp.out.wrote hwt)
              replace Vq := Lib.hid (Vq.out.wrote hwt)
              replace Vr := Lib.hid (Vr.out.wrote hwt)
              replace HBB := Lib.hid (HBB.out.trans hwt)
              replace HWR := Lib.hid hwr
              clear hwr hwt
              refine wpAnyH_ready (rs := [23]) (by kernel_rfl) (by simp) ?_
              refine AllReadyH.cons (o := ?_) ?_ (fun K hK => ?_) AllReadyH.nil
              rotate_left 1
              · (simp only [List.getElem?_toArray, List.getElem?_cons_succ, List.getElem?_cons_zero]; first | done | rfl)
              go_simp
              go_at_call 29
              refine (wbyte_va HWR.out Vr.out (by simp [encText_len]; omega)).mono ?_
              rintro e D16 ⟨rfl, hwr, hwt⟩
              first | (refine hK.out _ _ ?_ (fun hq9 => ?_)) | (go_wp2_with fail; refine hK.out _ _ ?_ (fun hq9 => ?_))
              · exact HSALL.out _ (HBB.out.trans hwt)
              clear hK K
              (try simp only [Act.put, List.setIfInBounds_toArray, List.set_cons_zero, List.set_cons_succ])
              clear hq8
              replace Vp := Lib.hid (Vp.out.wrote hwt)
              replace Vq := Lib.hid (Vq.out.wrote hwt)
              replace Vr := Lib.hid (Vr.out.wrote hwt)
              replace HBB := Lib.hid (HBB.out.trans hwt)
              replace HWR := Lib.hid hwr
              clear hwr hwt
              refine wpAnyH_done (by kernel_rfl) ?_ _
              go_wp2_with fail
              first | go_end0 | refine bodyPost_ret (results_none rfl _ _ _) rfl ?_
              exact ⟨rfl, by rw [HE.out]; simpa only [List.append_assoc, List.map_cons, List.map_nil] using HWR.out, HWT0.out.trans HBB.out⟩
          · skip
            go_simp
            refine hK.out _ _ ?_ (fun hq5 => ?_)
            · exact HSALL.out _ (HBB.out.trans (wrote_below HWR.out.lt (balloc _ _)))
            clear hK K
            (try simp only [Act.put, List.setIfInBounds_toArray, List.set_cons_zero, List.set_cons_succ])
            clear hq4
            generalize hD : World.alloc D4 _ = D17 at hq5 ⊢
            have hb : Below D4.heap.size D4 D17 := by rw [← hD]; exact balloc _ _
            have Vr := Lib.hid (va_one pl 3 HWR.out); rw [hD] at Vr
            clear hD
            have ht := wrote_below HWR.out.lt hb
            replace Vp := Lib.hid (Vp.out.wrote ht)
            replace Vq := Lib.hid (Vq.out.wrote ht)
            replace HBB := Lib.hid (HBB.out.trans ht)
            replace HWR := Lib.hid (HWR.out.below hb)
            clear hb ht
            generalize D4.heap.size = r at *
            refine wpAnyH_ready (rs := [13]) (by kernel_rfl) (by simp) ?_
            refine AllReadyH.cons (o := ?_) ?_ (fun K hK => ?_) AllReadyH.nil
            rotate_left 1
            · (simp only [List.getElem?_toArray, List.getElem?_cons_succ, List.getElem?_cons_zero]; first | done | rfl)
            go_simp
            go_at_call 29
            refine (wbyte_va HWR.out Vq.out (by simp [encText_len]; omega)).mono ?_
            rintro e D18 ⟨rfl, hwr, hwt⟩
            first | (refine hK.out _ _ ?_ (fun hq6 => ?_)) | (go_wp2_with fail; refine hK.out _ _ ?_ (fun hq6 => ?_))
            · exact HSALL.out _ (HBB.out.trans hwt)
            clear hK K
            (try simp only [Act.put, List.setIfInBounds_toArray, List.set_cons_zero, List.set_cons_succ])
            clear hq5
            replace Vp := Lib.hid (Vp.out.wrote hwt)
            replace Vq := Lib.hid (Vq.out.wrote hwt)
            replace Vr := Lib.hid (Vr.out.wrote hwt)
            replace HBB := Lib.hid (HBB.out.trans hwt)
            replace HWR := Lib.hid hwr
            clear hwr hwt
            refine wpAnyH_ready (rs := [16]) (by kernel_rfl) (by simp) ?_
            refine AllReadyH.cons (o := ?_) ?_ (fun K hK => ?_) AllReadyH.nil
            rotate_left 1
            · (simp only [List.getElem?_toArray, List.getElem?_cons_succ, List.getElem?_cons_zero]; first | done | rfl)
            go_simp
            go_at_call 14
            refine (wfilter_any b _ sc c0 cc cs _ w0 HWR.out HCL.out (HBL.out _ (HWT0.out.trans HBB.out)) hle HNUM.out (by simp [encText_len]; omega) hlm).mono ?_
            rintro e D19 ⟨rfl, hwr, hwt⟩
            first | (refine hK.out _ _ ?_ (fun hq7 => ?_)) | (go_wp2_with fail; refine hK.out _ _ ?_ (fun hq7 => ?_))
            · exact HSALL.out _ (HBB.out.trans hwt)
            clear hK K
            (try simp only [Act.put, List.setIfInBounds_toArray, List.set_cons_zero, List.set_cons_succ])
            clear hq6
            replace Vp := Lib.hid (Vp.out.wrote hwt)
            replace Vq := Lib.hid (Vq.out.wrote hwt)
            replace Vr := Lib.hid (Vr.out.wrote hwt)
            replace HBB := Lib.hid (HBB.out.trans hwt)
            replace HWR := Lib.hid hwr
            clear hwr hwt
            refine wpAnyH_ready (rs := [19]) (by kernel_rfl) (by simp) ?_
            refine AllReadyH.cons (o := ?_) ?_ (fun K hK => ?_) AllReadyH.nil
            rotate_left 1
            · (simp only [List.getElem?_toArray, List.getElem?_cons_succ, List.getElem?_cons_zero]; first | done | rfl)
            go_simp
            go_at_call 31
            refine (wtext_any b _ nm _ HWR.out (by simp [encText_len]; omega)).mono ?_
            rintro e D20 ⟨rfl, hwr, hwt⟩
            first | (refine hK.out _ _ ?_ (fun hq8 => ?_)) | (go_wp2_with fail; refine hK.out _ _ ?_ (fun hq8 => ?_))
            · exact HSALL.out _ (HBB.out.trans hwt)
            clear hK K
            (try simp only [Act.put, List.setIfInBounds_toArray, List.set_cons_zero, List.set_cons_succ])
            clear hq7
            replace Vp := Lib.hid (Vp.out.wrote hwt)
            replace Vq := Lib.hid (Vq.out.wrote hwt)
            replace Vr := Lib.hid (Vr.out.wrote hwt)
            replace HBB := Lib.hid (HBB.out.trans hwt)
            replace HWR := Lib.hid hwr
            clear hwr hwt
            refine wpAnyH_ready (rs := [23]) (by kernel_rfl) (by simp) ?_
            refine AllReadyH.cons (o := ?_) ?_ (fun K hK => ?_) AllReadyH.nil
            rotate_left 1
            · (simp only [List.getElem?_toArray, List.getElem?_cons_succ, List.getElem?_cons_zero]; first | done | rfl)
            go_simp
            go_at_call 29
            refine (wbyte_va HWR.out Vr.out (by simp [encText_len]; omega)).mono ?_
            rintro e D21 ⟨rfl, hwr, hwt⟩
            first | (refine hK.out _ _ ?_ (fun hq9 => ?_)) | (go_wp2_with fail; refine hK.out _ _ ?_ (fun hq9 => ?_))
            · exact HSALL.out _ (HBB.out.trans hwt)
            clear hK K
            (try simp only [Act.put, List.setIfInBounds_toArray, List.set_cons_zero, List.set_cons_succ])
            clear hq8
            replace Vp := Lib.hid (Vp.out.wrote hwt)
            replace Vq := Lib.hid (Vq.out.wrote hwt)
            replace Vr := Lib.hid (Vr.out.wrote hwt)
            replace HBB := Lib.hid (HBB.out.trans hwt)
            replace HWR := Lib.hid hwr
            clear hwr hwt
            refine wpAnyH_done (by kernel_rfl) ?_ _
            go_wp2_with fail
            first | go_end0 | refine bodyPost_ret (results_none rfl _ _ _) rfl ?_
            exact ⟨rfl, by rw [HE.out]; simpa only [List.append_assoc, List.map_cons, List.map_nil] using HWR.out, HWT0.out.trans HBB.out⟩
        · skip
          go_simp
          refine hK.out _ _ ?_ (fun hq4 => ?_)
          · exact HSALL.out _ (HBB.out.trans (wrote_below HWR.out.lt (balloc _ _)))
          clear hK K
          (try simp only [Act.put, List.setIfInBounds_toArray, List.set_cons_zero, List.set_cons_succ])
          clear hq3
          generalize hD : World.alloc D3 _ = D22 at hq4 ⊢
          have hb : Below D3.heap.size D3 D22 := by rw [← hD]; exact balloc _ _
          have Vr := Lib.hid (va_one pl 3 HWR.out); rw [hD] at Vr
          clear hD
          have ht := wrote_below HWR.out.lt hb
          replace Vp := Lib.hid (Vp.out.wrote ht)
          replace HBB := Lib.hid (HBB.out.trans ht)
          replace HWR := Lib.hid (HWR.out.below hb)
          clear hb ht
          generalize D3.heap.size = r at *
          refine wpAnyH_ready (rs := [12]) (by kernel_rfl) (by simp) ?_
          refine AllReadyH.cons (o := ?_) ?_ (fun K hK => ?_) AllReadyH.nil
          rotate_left 1
          · (simp only [List.getElem?_toArray, List.getElem?_cons_succ, List.getElem?_cons_zero]; first | done | rfl)
          go_simp
          refine hK.out _ _ ?_ (fun hq5 => ?_)
          · exact HSALL.out _ (HBB.out.trans (wrote_below HWR.out.lt (balloc _ _)))
          clear hK K
          (try simp only [Act.put, List.setIfInBounds_toArray, List.set_cons_zero, List.set_cons_succ])
          clear hq4
          generalize hD : World.alloc D22 _ = D23 at hq5 ⊢
          have hb : Below D22.heap.size D22 D23 := by rw [← hD]; exact balloc _ _
          have Vq := Lib.hid (va_one br 3 HWR.out); rw [hD] at Vq
          clear hD
          have ht := wrote_below HWR.out.lt hb
          replace Vp := Lib.hid (Vp.out.wrote ht)
          replace Vr := Lib.hid (Vr.out.wrote ht)
          replace HBB := Lib.hid (HBB.out.trans ht)
          replace HWR := Lib.hid (HWR.out.below hb)
          clear hb ht
          generalize D22.heap.size = q at *
          refine wpAnyH_ready (rs := [13]) (by kernel_rfl) (by simp) ?_
          refine AllReadyH.cons (o := ?_) ?_ (fun K hK => ?_) AllReadyH.nil
          rotate_left 1
          · (simp only [List.getElem?_toArray, List.getElem?_cons_succ, List.getElem?_cons_zero]; first | done | rfl)
          go_simp
          go_at_call 29
          refine (wbyte_va HWR.out Vq.out (by simp [encText_len]; omega)).mono ?_
          rintro e D24 ⟨rfl, hwr, hwt⟩
          first | (refine hK.out _ _ ?_ (fun hq6 => ?_)) | (go_wp2_with fail; refine hK.out _ _ ?_ (fun hq6 => ?_))
          · exact HSALL.out _ (HBB.out.trans hwt)
          clear hK K
          (try simp only [Act.put, List.setIfInBounds_toArray, List.set_cons_zero, List.set_cons_succ])
          clear hq5
          replace Vp := Lib.hid (Vp.out.wrote hwt)
          replace Vr := Lib.hid (Vr.out.wrote hwt)
          replace Vq := Lib.hid (Vq.out.wrote hwt)
          replace HBB := Lib.hid (HBB.out.trans hwt)
          replace HWR := Lib.hid hwr
          clear hwr hwt
          refine wpAnyH_ready (rs := [16]) (by kernel_rfl) (by simp) ?_
          refine AllReadyH.cons (o := ?_) ?_ (fun K hK => ?_) AllReadyH.nil
          rotate_left 1
          · (simp only [List.getElem?_toArray, List.getElem?_cons_succ, List.getElem?_cons_zero]; first | done | rfl)
          go_simp
          go_at_call 14
          refine (wfilter_any b _ sc c0 cc cs _ w0 HWR.out HCL.out (HBL.out _ (HWT0.out.trans HBB.out)) hle HNUM.out (by simp [encText_len]; omega) hlm).mono ?_
          rintro e D25 ⟨rfl, hwr, hwt⟩
          first | (refine hK.out _ _ ?_ (fun hq7 => ?_)) | (go_wp2_with fail; refine hK.out _ _ ?_ (fun hq7 => ?_))
          · exact HSALL.out _ (HBB.out.trans hwt)
          clear hK K
          (try simp only [Act.put, List.setIfInBounds_toArray, List.set_cons_zero, List.set_cons_succ])
          clear hq6
          replace Vp := Lib.hid (Vp.out.wrote hwt)
          replace Vr := Lib.hid (Vr.out.wrote hwt)
          replace Vq := Lib.hid (Vq.out.wrote hwt)
          replace HBB := Lib.hid (HBB.out.trans hwt)
          replace HWR := Lib.hid hwr
          clear hwr hwt
          refine wpAnyH_ready (rs := [19]) (by kernel_rfl) (by simp) ?_
          refine AllReadyH.cons (o := ?_) ?_ (fun K hK => ?_) AllReadyH.nil
          rotate_left 1
          · (simp only [List.getElem?_toArray, List.getElem?_cons_succ, List.getElem?_cons_zero]; first | done | rfl)
          go_simp
          go_at_call 31
          refine (wtext_any b _ nm _ HWR.out (by simp [encText_len]; omega)).mono ?_
          rintro e D26 ⟨rfl, hwr, hwt⟩
          first | (refine hK.out _ _ ?_ (fun hq8 => ?_)) | (go_wp2_with fail; refine hK.out _ _ ?_ (fun hq8 => ?_))
          · exact HSALL.out _ (HBB.out.trans hwt)
          clear hK K
          (try simp only [Act.put, List.setIfInBounds_toArray, List.set_cons_zero, List.set_cons_succ])
          clear hq7
          replace Vp := Lib.hid (Vp.out.wrote hwt)
          replace Vr := Lib.hid (Vr.out.wrote hwt)
          replace Vq := Lib.hid (Vq.out.wrote hwt)
          replace HBB := Lib.hid (HBB.out.trans hwt)
          replace HWR := Lib.hid hwr
          clear hwr hwt
          refine wpAnyH_ready (rs := [23]) (by kernel_rfl) (by simp) ?_
          refine AllReadyH.cons (o := ?_) ?_ (fun K hK => ?_) AllReadyH.nil
          rotate_left 1
          · (simp only [List.getElem?_toArray, List.getElem?_cons_succ, List.getElem?_cons_zero]; first | done | rfl)
          go_simp
          go_at_call 29
          refine (wbyte_va HWR.out Vr.out (by simp [encText_len]; omega)).mono ?_
          rintro e D27 ⟨rfl, hwr, hwt⟩
          first | (refine hK.out _ _ ?_ (fun hq9 => ?_)) | (go_wp2_with fail; refine hK.out _ _ ?_ (fun hq9 => ?_))
          · exact HSALL.out _ (HBB.out.trans hwt)
          clear hK K
          (try simp only [Act.put, List.setIfInBounds_toArray, List.set_cons_zero, List.set_cons_succ])
          clear hq8
          replace Vp := Lib.hid (Vp.out.wrote hwt)
          replace Vr := Lib.hid (Vr.out.wrote hwt)
          replace Vq := Lib.hid (Vq.out.wrote hwt)
          replace HBB := Lib.hid (HBB.out.trans hwt)
          replace HWR := Lib.hid hwr
          clear hwr hwt
          refine wpAnyH_done (by kernel_rfl) ?_ _
          go_wp2_with fail
          first | go_end0 | refine bodyPost_ret (results_none rfl _ _ _) rfl ?_
          exact ⟨rfl, by rw [HE.out]; simpa only [List.append_assoc, List.map_cons, List.map_nil] using HWR.out, HWT0.out.trans HBB.out⟩
      · skip
        go_simp
        refine hK.out _ _ ?_ (fun hq3 => ?_)
        · exact HSALL.out _ (HBB.out.trans (wrote_below HWR.out.lt (balloc _ _)))
        clear hK K
        (try simp only [Act.put, List.setIfInBounds_toArray, List.set_cons_zero, List.set_cons_succ])
        clear hq2
        generalize hD : World.alloc D2 _ = D28 at hq3 ⊢
        have hb : Below D2.heap.size D2 D28 := by rw [← hD]; exact balloc _ _
        have Vq := Lib.hid (va_one br 3 HWR.out); rw [hD] at Vq
        clear hD
        have ht := wrote_below HWR.out.lt hb
        replace Vp := Lib.hid (Vp.out.wrote ht)
        replace HBB := Lib.hid (HBB.out.trans ht)
        replace HWR := Lib.hid (HWR.out.below hb)
        clear hb ht
        generalize D2.heap.size = q at *
        refine wpAnyH_ready (rs := [9, 22]) (by kernel_rfl) (by simp) ?_
        refine AllReadyH.cons (o := ?_) ?_ (fun K hK => ?_) ?_
        rotate_left 1
        · (simp only [List.getElem?_toArray, List.getElem?_cons_succ, List.getElem?_cons_zero]; first | done | rfl)
        rotate_left 1
        refine AllReadyH.cons (o := ?_) ?_ (fun K hK => ?_) AllReadyH.nil
        rotate_left 1
        · (simp only [List.getElem?_toArray, List.getElem?_cons_succ, List.getElem?_cons_zero]; first | done | rfl)
        rotate_left 1
        · skip
          go_simp
          go_at_call 31
          refine (wtext_any b _ who _ HWR.out (by simp; omega)).mono ?_
          rintro e D29 ⟨rfl, hwr, hwt⟩
          first | (refine hK.out _ _ ?_ (fun hq4 => ?_)) | (go_wp2_with fail; refine hK.out _ _ ?_ (fun hq4 => ?_))
          · exact HSALL.out _ (HBB.out.trans hwt)
          clear hK K
          (try simp only [Act.put, List.setIfInBounds_toArray, List.set_cons_zero, List.set_cons_succ])
          clear hq3
          replace Vp := Lib.hid (Vp.out.wrote hwt)
          replace Vq := Lib.hid (Vq.out.wrote hwt)
          replace HBB := Lib.hid (HBB.out.trans hwt)
          replace HWR := Lib.hid hwr
          clear hwr hwt
          refine wpAnyH_ready (rs := [13, 22]) (by kernel_rfl) (by simp) ?_
          refine AllReadyH.cons (o := ?_) ?_ (fun K hK => ?_) ?_
          rotate_left 1
          · (simp only [List.getElem?_toArray, List.getElem?_cons_succ, List.getElem?_cons_zero]; first | done | rfl)
          rotate_left 1
          refine AllReadyH.cons (o := ?_) ?_ (fun K hK => ?_) AllReadyH.nil
          rotate_left 1
          · (simp only [List.getElem?_toArray, List.getElem?_cons_succ, List.getElem?_cons_zero]; first | done | rfl)
          rotate_left 1
          · skip
            go_simp
            go_at_call 29
            refine (wbyte_va HWR.out Vq.out (by simp [encText_len]; omega)).mono ?_
            rintro e D30 ⟨rfl, hwr, hwt⟩
            first | (refine hK.out _ _ ?_ (fun hq5 => ?_)) | (go_wp2_with fail; refine hK.out _ _ ?_ (fun hq5 => ?_))
            · exact HSALL.out _ (HBB.out.trans hwt)
            clear hK K
            (try simp only [Act.put, List.setIfInBounds_toArray, List.set_cons_zero, List.set_cons_succ])
            clear hq4
            replace Vp := Lib.hid (Vp.out.wrote hwt)
            replace Vq := Lib.hid (Vq.out.wrote hwt)
            replace HBB := Lib.hid (HBB.out.trans hwt)
            replace HWR := Lib.hid hwr
            clear hwr hwt
            refine wpAnyH_ready (rs := [16, 22]) (by kernel_rfl) (by simp) ?_
            refine AllReadyH.cons (o := ?_) ?_ (fun K hK => ?_) ?_
            rotate_left 1
            · (simp only [List.getElem?_toArray, List.getElem?_cons_succ, List.getElem?_cons_zero]; first | done | rfl)
            rotate_left 1
            refine AllReadyH.cons (o := ?_) ?_ (fun K hK => ?_) AllReadyH.nil
            rotate_left 1
            · (simp only [List.getElem?_toArray, List.getElem?_cons_succ, List.getElem?_cons_zero]; first | done | rfl)
            rotate_left 1
            · skip
              go_simp
              go_at_call 14
              refine (wfilter_any b _ sc c0 cc cs _ w0 HWR.out HCL.out (HBL.out _ (HWT0.out.trans HBB.out)) hle HNUM.out (by simp [encText_len]; omega) hlm).mono ?_
              rintro e D31 ⟨rfl, hwr, hwt⟩
              first | (refine hK.out _ _ ?_ (fun hq6 => ?_)) | (go_wp2_with fail; refine hK.out _ _ ?_ (fun hq6 => ?_))
              · exact HSALL.out _ (HBB.out.trans hwt)
              clear hK K
              (try simp only [Act.put, List.setIfInBounds_toArray, List.set_cons_zero, List.set_cons_succ])
              clear hq5
              replace Vp := Lib.hid (Vp.out.wrote hwt)
              replace Vq := Lib.hid (Vq.out.wrote hwt)
              replace HBB := Lib.hid (HBB.out.trans hwt)
              replace HWR := Lib.hid hwr
              clear hwr hwt
              refine wpAnyH_ready (rs := [19, 22]) (by kernel_rfl) (by simp) ?_
              refine AllReadyH.cons (o := ?_) ?_ (fun K hK => ?_) ?_
              rotate_left 1
              · (simp only [List.getElem?_toArray, List.getElem?_cons_succ, List.getElem?_cons_zero]; first | done | rfl)
              rotate_left 1
              refine AllReadyH.cons (o := ?_) ?_ (fun K hK => ?_) AllReadyH.nil
              rotate_left 1
              · (simp only [List.getElem?_toArray, List.getElem?_cons_succ, List.getElem?_cons_zero]; first | done | rfl)
              rotate_left 1
              · skip
                go_simp
                go_at_call 31
                refine (wtext_any b _ nm _ HWR.out (by simp [encText_len]; omega)).mono ?_
                rintro e D32 ⟨rfl, hwr, hwt⟩
                first | (refine hK.out _ _ ?_ (fun hq7 => ?_)) | (go_wp2_with fail; refine hK.out _ _ ?_ (fun hq7 => ?_))
                · exact HSALL.out _ (HBB.out.trans hwt)
                clear hK K
                (try simp only [Act.put, List.setIfInBounds_toArray, List.set_cons_zero, List.set_cons_succ])
                clear hq6
                replace Vp := Lib.hid (Vp.out.wrote hwt)
                replace Vq := Lib.hid (Vq.out.wrote hwt)
                replace HBB := Lib.hid (HBB.out.trans hwt)
                replace HWR := Lib.hid hwr
                clear hwr hwt
                refine wpAnyH_ready (rs := [22]) (by kernel_rfl) (by simp) ?_
                refine AllReadyH.cons (o := ?_) ?_ (fun K hK => ?_) AllReadyH.nil
                rotate_left 1
                · (simp only [List.getElem?_toArray, List.getElem?_cons_succ, List.getElem?_cons_zero]; first | done | rfl)
                go_simp
                refine hK.out _ _ ?_ (fun hq8 => ?_)
                · exact HSALL.out _ (HBB.out.trans (wrote_below HWR.out.lt (balloc _ _)))
                clear hK K
                (try simp only [Act.put, List.setIfInBounds_toArray, List.set_cons_zero, List.set_cons_succ])
                clear hq7
                generalize hD : World.alloc D32 _ = D33 at hq8 ⊢
                have hb : Below D32.heap.size D32 D33 := by rw [← hD]; exact balloc _ _
                have Vr := Lib.hid (va_one pl 3 HWR.out); rw [hD] at Vr
                clear hD
                have ht := wrote_below HWR.out.lt hb
                replace Vp := Lib.hid (Vp.out.wrote ht)
                replace Vq := Lib.hid (Vq.out.wrote ht)
                replace HBB := Lib.hid (HBB.out.trans ht)
                replace HWR := Lib.hid (HWR.out.below hb)
                clear hb ht
                generalize D32.heap.size = r at *
                refine wpAnyH_ready (rs := [23]) (by kernel_rfl) (by simp) ?_
                refine AllReadyH.cons (o := ?_) ?_ (fun K hK => ?_) AllReadyH.nil
                rotate_left 1
                · (simp only [List.getElem?_toArray, List.getElem?_cons_succ, List.getElem?_cons_zero]; first | done | rfl)
                go_simp
                go_at_call 29
                refine (wbyte_va HWR.out Vr.out (by simp [encText_len]; omega)).mono ?_
                rintro e D34 ⟨rfl, hwr, hwt⟩
                first | (refine hK.out _ _ ?_ (fun hq9 => ?_)) | (go_wp2_with fail; refine hK.out _ _ ?_ (fun hq9 => ?_))
                · exact HSALL.out _ (HBB.out.trans hwt)
                clear hK K
                (try simp only [Act.put, List.setIfInBounds_toArray, List.set_cons_zero, List.set_cons_succ])
                clear hq8
                replace Vp := Lib.hid (Vp.out.wrote hwt)
                replace Vq := Lib.hid (Vq.out.wrote hwt)
                replace Vr := Lib.hid (Vr.out.wrote hwt)
                replace HBB := Lib.hid (HBB.out.trans hwt)
                replace HWR := Lib.hid hwr
                clear hwr hwt
                refine wpAnyH_done (by kernel_rfl) ?_ _
                go_wp2_with fail
                first | go_end0 | refine bodyPost_ret (results_none rfl _ _ _) rfl ?_
                exact ⟨rfl, by rw [HE.out]; simpa only [List.append_assoc, List.map_cons, List.map_nil] using HWR.out, HWT0.out.trans HBB.out⟩
              · skip
                go_simp
                refine hK.out _ _ ?_ (fun hq7 => ?_)
                · exact HSALL.out _ (HBB.out.trans (wrote_below HWR.out.lt (balloc _ _)))
                clear hK K
                (try simp only [Act.put, List.setIfInBounds_toArray, List.set_cons_zero, List.set_cons_succ])
                clear hq6
                generalize hD : World.alloc D31 _ = D35 at hq7 ⊢
                have hb : Below D31.heap.size D31 D35 := by rw [← hD]; exact balloc _ _
                have Vr := Lib.hid (va_one pl 3 HWR.out); rw [hD] at Vr
                clear hD
                have ht := wrote_below HWR.out.lt hb
                replace Vp := Lib.hid (Vp.out.wrote ht)
                replace Vq := Lib.hid (Vq.out.wrote ht)
                replace HBB := Lib.hid (HBB.out.trans ht)
                replace HWR := Lib.hid (HWR.out.below hb)
                clear hb ht
                generalize D31.heap.size = r at *
                refine wpAnyH_ready (rs := [19]) (by kernel_rfl) (by simp) ?_
                refine AllReadyH.cons (o := ?_) ?_ (fun K hK => ?_) AllReadyH.nil
                rotate_left 1
                · (simp only [List.getElem?_toArray, List.getElem?_cons_succ, List.getElem?_cons_zero]; first | done | rfl)
                go_simp
                go_at_call 31
                refine (wtext_any b _ nm _ HWR.out (by simp [encText_len]; omega)).mono ?_
                rintro e D36 ⟨rfl, hwr, hwt⟩
                first | (refine hK.out _ _ ?_ (fun hq8 => ?_)) | (go_wp2_with fail; refine hK.out _ _ ?_ (fun hq8 => ?_))
                · exact HSALL.out _ (HBB.out.trans hwt)
                clear hK K
                (try simp only [Act.put, List.setIfInBounds_toArray, List.set_cons_zero, List.set_cons_succ])
                clear hq7
                replace Vp := Lib.hid (Vp.out.wrote hwt)
                replace Vq := Lib.hid (Vq.out.wrote hwt)
                replace Vr := Lib.hid (Vr.out.wrote hwt)
                replace HBB := Lib.hid (HBB.out.trans hwt)
                replace HWR := Lib.hid hwr
                clear hwr hwt
                refine wpAnyH_ready (rs := [23]) (by kernel_rfl) (by simp) ?_
                refine AllReadyH.cons (o := ?_) ?_ (fun K hK => ?_) AllReadyH.nil
                rotate_left 1
                · (simp only [List.getElem?_toArray, List.getElem?_cons_succ, List.getElem?_cons_zero]; first | done | rfl)
                go_simp
                go_at_call 29
                refine (wbyte_va HWR.out Vr.out (by simp [encText_len]; omega)).mono ?_
                rintro e D37 ⟨rfl, hwr, hwt⟩
                first | (refine hK.out _ _ ?_ (fun hq9 => ?_)) | (go_wp2_with fail; refine hK.out _ _ ?_ (fun hq9 => ?_))
                · exact HSALL.out _ (HBB.out.trans hwt)
                clear hK K
                (try simp only [Act.put, List.setIfInBounds_toArray, List.set_cons_zero, List.set_cons_succ])
                clear hq8
                replace Vp := Lib.hid (Vp.out.wrote hwt)
                replace Vq := Lib.hid (Vq.out.wrote hwt)
                replace Vr := Lib.hid (Vr.out.wrote hwt)
                replace HBB := Lib.hid (HBB.out.trans hwt)
                replace HWR := Lib.hid hwr
                clear hwr hwt
                refine wpAnyH_done (by kernel_rfl) ?_ _
                go_wp2_with fail
                first | go_end0 | refine bodyPost_ret (results_none rfl _ _ _) rfl ?_
                exact ⟨rfl, by rw [HE.out]; simpa only [List.append_assoc, List.map_cons, List.map_nil] using HWR.out, HWT0.out.trans HBB.out⟩
            · skip
              go_simp
              refine hK.out _ _ ?_ (fun hq6 => ?_)
              · exact HSALL.out _ (HBB.out.trans (wrote_below HWR.out.lt (balloc _ _)))
              clear hK K
              (try simp only [Act.put, List.setIfInBounds_toArray, List.set_cons_zero, List.set_cons_succ])
              clear hq5
              generalize hD : World.alloc D30 _ = D38 at hq6 ⊢
              have hb : Below D30.heap.size D30 D38 := by rw [← hD]; exact balloc _ _
              have Vr := Lib.hid (va_one pl 3 HWR.out); rw [hD] at Vr
              clear hD
              have ht := wrote_below HWR.out.lt hb
              replace Vp := Lib.hid (Vp.out.wrote ht)
              replace Vq := Lib.hid (Vq.out.wrote ht)
              replace HBB := Lib.hid (HBB.out.trans ht)
              replace HWR := Lib.hid (HWR.out.below hb)
              clear hb ht
              generalize D30.heap.size = r at *
              refine wpAnyH_ready (rs := [16]) (by kernel_rfl) (by simp) ?_
              refine AllReadyH.cons (o := ?_) ?_ (fun K hK => ?_) AllReadyH.nil
              rotate_left 1
              · (simp only [List.getElem?_toArray, List.getElem?_cons_succ, List.getElem?_cons_zero]; first | done | rfl)
              go_simp
              go_at_call 14
              refine (wfilter_any b _ sc c0 cc cs _ w0 HWR.out HCL.out (HBL.out _ (HWT0.out.trans HBB.out)) hle HNUM.out (by simp [encText_len]; omega) hlm).mono ?_
              rintro e D39 ⟨rfl, hwr, hwt⟩
              first | (refine hK.out _ _ ?_ (fun hq7 => ?_)) | (go_wp2_with fail; refine hK.out _ _ ?_ (fun hq7 => ?_))
              · exact HSALL.out _ (HBB.out.trans hwt)
              clear hK K
              (try simp only [Act.put, List.setIfInBounds_toArray, List.set_cons_zero, List.set_cons_succ])
              clear hq6
              replace Vp := Lib.hid (Vp.out.wrote hwt)
              replace Vq := Lib.hid (Vq.out.wrote hwt)
              replace Vr := Lib.hid (Vr.out.wrote hwt)
              replace HBB := Lib.hid (HBB.out.trans hwt)
              replace HWR := Lib.hid hwr
              clear hwr hwt
              refine wpAnyH_ready (rs := [19]) (by kernel_rfl) (by simp) ?_
              refine AllReadyH.cons (o := ?_) ?_ (fun K hK => ?_) AllReadyH.nil
              rotate_left 1
              · (simp only [List.getElem?_toArray, List.getElem?_cons_succ, List.getElem?_cons_zero]; first | done | rfl)
              go_simp
              go_at_call 31
              refine (wtext_any b _ nm _ HWR.out (by simp [encText_len]; omega)).mono ?_
              rintro e D40 ⟨rfl, hwr, hwt⟩
              first | (refine hK.out _ _ ?_ (fun hq8 => ?_)) | (go_wp2_with fail; refine hK.out _ _ ?_ (fun hq8 => ?_))
              · exact HSALL.out _ (HBB.out.trans hwt)
              clear hK K
              (try simp only [Act.put, List.setIfInBounds_toArray, List.set_cons_zero, List.set_cons_succ])
              clear hq7
              replace Vp := Lib.hid (Vp.out.wrote hwt)
              replace Vq := Lib.hid (Vq.out.wrote hwt)
              replace Vr := Lib.hid (Vr.out.wrote hwt)
              replace HBB := Lib.hid (HBB.out.trans hwt)
              replace HWR := Lib.hid hwr
              clear hwr hwt
              refine wpAnyH_ready (rs := [23]) (by kernel_rfl) (by simp) ?_
              refine AllReadyH.cons (o := ?_) ?_ (fun K hK => ?_) AllReadyH.nil
              rotate_left 1
              · (simp only [List.getElem?_toArray, List.getElem?_cons_succ, List.getElem?_cons_zero]; first | done | rfl)
              go_simp
              go_at_call 29
              refine (wbyte_va HWR.out Vr.out (by simp [encText_len]; omega)).mono ?_
              rintro e D41 ⟨rfl, hwr, hwt⟩
              first | (refine hK.out _ _ ?_ (fun hq9 => ?_)) | (go_wp2_with fail; refine hK.out _ _ ?_ (fun hq9 => ?_))
              · exact HSALL.out _ (HBB.out.trans hwt)
              clear hK K
              (try simp only [Act.put, List.setIfInBounds_toArray, List.set_cons_zero, List.set_cons_succ])
              clear hq8
              replace Vp := Lib.hid (Vp.out.wrote hwt)
              replace Vq := Lib.hid (Vq.out.wrote hwt)
              replace Vr := Lib.hid (Vr.out.wrote hwt)
              replace HBB := Lib.hid (HBB.out.trans hwt)
              replace HWR := Lib.hid hwr
              clear hwr hwt
              refine wpAnyH_done (by kernel_rfl) ?_ _
              go_wp2_with fail
              first | go_end0 | refine bodyPost_ret (results_none rfl _ _ _) rfl ?_
              exact ⟨rfl, by rw [HE.out]; simpa only [List.append_assoc, List.map_cons, List.map_nil] using HWR.out, HWT0.out.trans HBB.out⟩
          · skip
            go_simp
            refine hK.out _ _ ?_ (fun hq5 => ?_)
            · exact HSALL.out _ (HBB.out.trans (wrote_below HWR.out.lt (balloc _ _)))
            clear hK K
            (try simp only [Act.put, List.setIfInBounds_toArray, List.set_cons_zero, List.set_cons_succ])
            clear hq4
            generalize hD : World.alloc D29 _ = D42 at hq5 ⊢
            have hb : Below D29.heap.size D29 D42 := by rw [← hD]; exact balloc _ _
            have Vr := Lib.hid (va_one pl 3 HWR.out); rw [hD] at Vr
            clear hD
            have ht := wrote_below HWR.out.lt hb
            replace Vp := Lib.hid (Vp.out.wrote ht)
            replace Vq := Lib.hid (Vq.out.wrote ht)
            replace HBB := Lib.hid (HBB.out.trans ht)
            replace HWR := Lib.hid (HWR.out.below hb)
            clear hb ht
            generalize D29.heap.size = r at *
            refine wpAnyH_ready (rs := [13]) (by kernel_rfl) (by simp) ?_
            refine AllReadyH.cons (o := ?_) ?_ (fun K hK => ?_) AllReadyH.nil
            rotate_left 1
            · (simp only [List.getElem?_toArray, List.getElem?_cons_succ, List.getElem?_cons_zero]; first | done | rfl)
            go_simp
            go_at_call 29
            refine (wbyte_va HWR.out Vq.out (by simp [encText_len]; omega)).mono ?_
            rintro e D43 ⟨rfl, hwr, hwt⟩
            first | (refine hK.out _ _ ?_ (fun hq6 => ?_)) | (go_wp2_with fail; refine hK.out _ _ ?_ (fun hq6 => ?_))
            · exact HSALL.out _ (HBB.out.trans hwt)
            clear hK K
            (try simp only [Act.put, List.setIfInBounds_toArray, List.set_cons_zero, List.set_cons_succ])
            clear hq5
            replace Vp := Lib.hid (Vp.out.wrote hwt)
            replace Vq := Lib.hid (Vq.out.wrote hwt)
            replace Vr := Lib.hid (Vr.out.wrote hwt)
            replace HBB := Lib.hid (HBB.out.trans hwt)
            replace HWR := Lib.hid hwr
            clear hwr hwt
            refine wpAnyH_ready (rs := [16]) (by kernel_rfl) (by simp) ?_
            refine AllReadyH.cons (o := ?_) ?_ (fun K hK => ?_) AllReadyH.nil
            rotate_left 1
            · (simp only [List.getElem?_toArray, List.getElem?_cons_succ, List.getElem?_cons_zero]; first | done | rfl)
            go_simp
            go_at_call 14
            refine (wfilter_any b _ sc c0 cc cs _ w0 HWR.out HCL.out (HBL.out _ (HWT0.out.trans HBB.out)) hle HNUM.out (by simp [encText_len]; omega) hlm).mono ?_
            rintro e D44 ⟨rfl, hwr, hwt⟩
            first | (refine hK.out _ _ ?_ (fun hq7 => ?_)) | (go_wp2_with fail; refine hK.out _ _ ?_ (fun hq7 => ?_))
            · exact HSALL.out _ (HBB.out.trans hwt)
            clear hK K
            (try simp only [Act.put, List.setIfInBounds_toArray, List.set_cons_zero, List.set_cons_succ])
            clear hq6
            replace Vp := Lib.hid (Vp.out.wrote hwt)
            replace Vq := Lib.hid (Vq.out.wrote hwt)
            replace Vr := Lib.hid (Vr.out.wrote hwt)
            replace HBB := Lib.hid (HBB.out.trans hwt)
            replace HWR := Lib.hid hwr
            clear hwr hwt
            refine wpAnyH_ready (rs := [19]) (by kernel_rfl) (by simp) ?_
            refine AllReadyH.cons (o := ?_) ?_ (fun K hK => ?_) AllReadyH.nil
            rotate_left 1
            · (simp only [List.getElem?_toArray, List.getElem?_cons_succ, List.getElem?_cons_zero]; first | done | rfl)
            go_simp
            go_at_call 31
            refine (wtext_any b _ nm _ HWR.out (by simp [encText_len]; omega)).mono ?_
            rintro e D45 ⟨rfl, hwr, hwt⟩
            first | (refine hK.out _ _ ?_ (fun hq8 => ?_)) | (go_wp2_with fail; refine hK.out _ _ ?_ (fun hq8 => ?_))
            · exact HSALL.out _ (HBB.out.trans hwt)
            clear hK K
            (try simp only [Act.put, List.setIfInBounds_toArray, List.set_cons_zero, List.set_cons_succ])
            clear hq7
            replace Vp := Lib.hid (Vp.out.wrote hwt)
            replace Vq := Lib.hid (Vq.out.wrote hwt)
            replace Vr := Lib.hid (Vr.out.wrote hwt)
            replace HBB := Lib.hid (HBB.out.trans hwt)
            replace HWR := Lib.hid hwr
            clear hwr hwt
            refine wpAnyH_ready (rs := [23]) (by kernel_rfl) (by simp) ?_
            refine AllReadyH.cons (o := ?_) ?_ (fun K hK => ?_) AllReadyH.nil
            rotate_left 1
            · (simp only [List.getElem?_toArray, List.getElem?_cons_succ, List.getElem?_cons_zero]; first | done | rfl)
            go_simp
            go_at_call 29
            refine (wbyte_va HWR.out Vr.out (by simp [encText_len]; omega)).mono ?_
            rintro e D46 ⟨rfl, hwr, hwt⟩
            first | (refine hK.out _ _ ?_ (fun hq9 => ?_)) | (go_wp2_with fail; refine hK.out _ _ ?_ (fun hq9 => ?_))
            · exact HSALL.out _ (HBB.out.trans hwt)
            clear hK K
            (try simp only [Act.put, List.setIfInBounds_toArray, List.set_cons_zero, List.set_cons_succ])
            clear hq8
            replace Vp := Lib.hid (Vp.out.wrote hwt)
            replace Vq := Lib.hid (Vq.out.wrote hwt)
            replace Vr := Lib.hid (Vr.out.wrote hwt)
            replace HBB := Lib.hid (HBB.out.trans hwt)
            replace HWR := Lib.hid hwr
            clear hwr hwt
            refine wpAnyH_done (by kernel_rfl) ?_ _
            go_wp2_with fail
            first | go_end0 | refine bodyPost_ret (results_none rfl _ _ _) rfl ?_
            exact ⟨rfl, by rw [HE.out]; simpa only [List.append_assoc, List.map_cons, List.map_nil] using HWR.out, HWT0.out.trans HBB.out⟩
        · skip
          go_simp
          refine hK.out _ _ ?_ (fun hq4 => ?_)
          · exact HSALL.out _ (HBB.out.trans (wrote_below HWR.out.lt (balloc _ _)))
          clear hK K
          (try simp only [Act.put, List.setIfInBounds_toArray, List.set_cons_zero, List.set_cons_succ])
          clear hq3
          generalize hD : World.alloc D28 _ = D47 at hq4 ⊢
          have hb : Below D28.heap.size D28 D47 := by rw [← hD]; exact balloc _ _
          have Vr := Lib.hid (va_one pl 3 HWR.out); rw [hD] at Vr
          clear hD
          have ht := wrote_below HWR.out.lt hb
          replace Vp := Lib.hid (Vp.out.wrote ht)
          replace Vq := Lib.hid (Vq.out.wrote ht)
          replace HBB := Lib.hid (HBB.out.trans ht)
          replace HWR := Lib.hid (HWR.out.below hb)
          clear hb ht
          generalize D28.heap.size = r at *
          refine wpAnyH_ready (rs := [9]) (by kernel_rfl) (by simp) ?_
          refine AllReadyH.cons (o := ?_) ?_ (fun K hK => ?_) AllReadyH.nil
          rotate_left 1
          · (simp only [List.getElem?_toArray, List.getElem?_cons_succ, List.getElem?_cons_zero]; first | done | rfl)
          go_simp
          go_at_call 31
          refine (wtext_any b _ who _ HWR.out (by simp; omega)).mono ?_
          rintro e D48 ⟨rfl, hwr, hwt⟩
          first | (refine hK.out _ _ ?_ (fun hq5 => ?_)) | (go_wp2_with fail; refine hK.out _ _ ?_ (fun hq5 => ?_))
          · exact HSALL.out _ (HBB.out.trans hwt)
          clear hK K
          (try simp only [Act.put, List.setIfInBounds_toArray, List.set_cons_zero, List.set_cons_succ])
          clear hq4
          replace Vp := Lib.hid (Vp.out.wrote hwt)
          replace Vq := Lib.hid (Vq.out.wrote hwt)
          replace Vr := Lib.hid (Vr.out.wrote hwt)
          replace HBB := Lib.hid (HBB.out.trans hwt)
          replace HWR := Lib.hid hwr
          clear hwr hwt
          refine wpAnyH_ready (rs := [13]) (by kernel_rfl) (by simp) ?_
          refine AllReadyH.cons (o := ?_) ?_ (fun K hK => ?_) AllReadyH.nil
          rotate_left 1
          · (simp only [List.getElem?_toArray, List.getElem?_cons_succ, List.getElem?_cons_zero]; first | done | rfl)
          go_simp
          go_at_call 29
          refine (wbyte_va HWR.out Vq.out (by simp [encText_len]; omega)).mono ?_
          rintro e D49 ⟨rfl, hwr, hwt⟩
          first | (refine hK.out _ _ ?_ (fun hq6 => ?_)) | (go_wp2_with fail; refine hK.out _ _ ?_ (fun hq6 => ?_))
          · exact HSALL.out _ (HBB.out.trans hwt)
          clear hK K
          (try simp only [Act.put, List.setIfInBounds_toArray, List.set_cons_zero, List.set_cons_succ])
          clear hq5
          replace Vp := Lib.hid (Vp.out.wrote hwt)
          replace Vq := Lib.hid (Vq.out.wrote hwt)
          replace Vr := Lib.hid (Vr.out.wrote hwt)
          replace HBB := Lib.hid (HBB.out.trans hwt)
          replace HWR := Lib.hid hwr
          clear hwr hwt
          refine wpAnyH_ready (rs := [16]) (by kernel_rfl) (by simp) ?_
          refine AllReadyH.cons (o := ?_) ?_ (fun K hK => ?_) AllReadyH.nil
          rotate_left 1
          · (simp only [List.getElem?_toArray, List.getElem?_cons_succ, List.getElem?_cons_zero]; first | done | rfl)
          go_simp
          go_at_call 14
          refine (wfilter_any b _ sc c0 cc cs _ w0 HWR.out HCL.out (HBL.out _ (HWT0.out.trans HBB.out)) hle HNUM.out (by simp [encText_len]; omega) hlm).mono ?_
          rintro e D50 ⟨rfl, hwr, hwt⟩
          first | (refine hK.out _ _ ?_ (fun hq7 => ?_)) | (go_wp2_with fail; refine hK.out _ _ ?_ (fun hq7 => ?_))
          · exact HSALL.out _ (HBB.out.trans hwt)
          clear hK K
          (try simp only [Act.put, List.setIfInBounds_toArray, List.set_cons_zero, List.set_cons_succ])
          clear hq6
          replace Vp := Lib.hid (Vp.out.wrote hwt)
          replace Vq := Lib.hid (Vq.out.wrote hwt)
          replace Vr := Lib.hid (Vr.out.wrote hwt)
          replace HBB := Lib.hid (HBB.out.trans hwt)
          replace HWR := Lib.hid hwr
          clear hwr hwt
          refine wpAnyH_ready (rs := [19]) (by kernel_rfl) (by simp) ?_
          refine AllReadyH.cons (o := ?_) ?_ (fun K hK => ?_) AllReadyH.nil
          rotate_left 1
          · (simp only [List.getElem?_toArray, List.getElem?_cons_succ, List.getElem?_cons_zero]; first | done | rfl)
          go_simp
          go_at_call 31
          refine (wtext_any b _ nm _ HWR.out (by simp [encText_len]; omega)).mono ?_
          rintro e D51 ⟨rfl, hwr, hwt⟩
          first | (refine hK.out _ _ ?_ (fun hq8 => ?_)) | (go_wp2_with fail; refine hK.out _ _ ?_ (fun hq8 => ?_))
          · exact HSALL.out _ (HBB.out.trans hwt)
          clear hK K
          (try simp only [Act.put, List.setIfInBounds_toArray, List.set_cons_zero, List.set_cons_succ])
          clear hq7
          replace Vp := Lib.hid (Vp.out.wrote hwt)
          replace Vq := Lib.hid (Vq.out.wrote hwt)
          replace Vr := Lib.hid (Vr.out.wrote hwt)
          replace HBB := Lib.hid (HBB.out.trans hwt)
          replace HWR := Lib.hid hwr
          clear hwr hwt
          refine wpAnyH_ready (rs := [23]) (by kernel_rfl) (by simp) ?_
          refine AllReadyH.cons (o := ?_) ?_ (fun K hK => ?_) AllReadyH.nil
          rotate_left 1
          · (simp only [List.getElem?_toArray, List.getElem?_cons_succ, List.getElem?_cons_zero]; first | done | rfl)
          go_simp
          go_at_call 29
          refine (wbyte_va HWR.out Vr.out (by simp [encText_len]; omega)).mono ?_
          rintro e D52 ⟨rfl, hwr, hwt⟩
          first | (refine hK.out _ _ ?_ (fun hq9 => ?_)) | (go_wp2_with fail; refine hK.out _ _ ?_ (fun hq9 => ?_))
          · exact HSALL.out _ (HBB.out.trans hwt)
          clear hK K
          (try simp only [Act.put, List.setIfInBounds_toArray, List.set_cons_zero, List.set_cons_succ])
          clear hq8
          replace Vp := Lib.hid (Vp.out.wrote hwt)
          replace Vq := Lib.hid (Vq.out.wrote hwt)
          replace Vr := Lib.hid (Vr.out.wrote hwt)
          replace HBB := Lib.hid (HBB.out.trans hwt)
          replace HWR := Lib.hid hwr
          clear hwr hwt
          refine wpAnyH_done (by kernel_rfl) ?_ _
          go_wp2_with fail
          first | go_end0 | refine bodyPost_ret (results_none rfl _ _ _) rfl ?_
          exact ⟨rfl, by rw [HE.out]; simpa only [List.append_assoc, List.map_cons, List.map_nil] using HWR.out, HWT0.out.trans HBB.out⟩
      · skip
        go_simp
        refine hK.out _ _ ?_ (fun hq3 => ?_)
        · exact HSALL.out _ (HBB.out.trans (wrote_below HWR.out.lt (balloc _ _)))
        clear hK K
        (try simp only [Act.put, List.setIfInBounds_toArray, List.set_cons_zero, List.set_cons_succ])
        clear hq2
        generalize hD : World.alloc D2 _ = D53 at hq3 ⊢
        have hb : Below D2.heap.size D2 D53 := by rw [← hD]; exact balloc _ _
        have Vr := Lib.hid (va_one pl 3 HWR.out); rw [hD] at Vr
        clear hD
        have ht := wrote_below HWR.out.lt hb
        replace Vp := Lib.hid (Vp.out.wrote ht)
        replace HBB := Lib.hid (HBB.out.trans ht)
        replace HWR := Lib.hid (HWR.out.below hb)
        clear hb ht
        generalize D2.heap.size = r at *
        refine wpAnyH_ready (rs := [9, 12]) (by kernel_rfl) (by simp) ?_
        refine AllReadyH.cons (o := ?_) ?_ (fun K hK => ?_) ?_
        rotate_left 1
        · (simp only [List.getElem?_toArray, List.getElem?_cons_succ, List.getElem?_cons_zero]; first | done | rfl)
        rotate_left 1
        refine AllReadyH.cons (o := ?_) ?_ (fun K hK => ?_) AllReadyH.nil
        rotate_left 1
        · (simp only [List.getElem?_toArray, List.getElem?_cons_succ, List.getElem?_cons_zero]; first | done | rfl)
        rotate_left 1
        · skip
          go_simp
          go_at_call 31
          refine (wtext_any b _ who _ HWR.out (by simp; omega)).mono ?_
          rintro e D54 ⟨rfl, hwr, hwt⟩
          first | (refine hK.out _ _ ?_ (fun hq4 => ?_)) | (go_wp2_with fail; refine hK.out _ _ ?_ (fun hq4 => ?_))
          · exact HSALL.out _ (HBB.out.trans hwt)
          clear hK K
          (try simp only [Act.put, List.setIfInBounds_toArray, List.set_cons_zero, List.set_cons_succ])
          clear hq3
          replace Vp := Lib.hid (Vp.out.wrote hwt)
          replace Vr := Lib.hid (Vr.out.wrote hwt)
          replace HBB := Lib.hid (HBB.out.trans hwt)
          replace HWR := Lib.hid hwr
          clear hwr hwt
          refine wpAnyH_ready (rs := [12]) (by kernel_rfl) (by simp) ?_
          refine AllReadyH.cons (o := ?_) ?_ (fun K hK => ?_) AllReadyH.nil
          rotate_left 1
          · (simp only [List.getElem?_toArray, List.getElem?_cons_succ, List.getElem?_cons_zero]; first | done | rfl)
          go_simp
          refine hK.out _ _ ?_ (fun hq5 => ?_)
          · exact HSALL.out _ (HBB.out.trans (wrote_below HWR.out.lt (balloc _ _)))
          clear hK K
          (try simp only [Act.put, List.setIfInBounds_toArray, List.set_cons_zero, List.set_cons_succ])
          clear hq4
          generalize hD : World.alloc D54 _ = D55 at hq5 ⊢
          have hb : Below D54.heap.size D54 D55 := by rw [← hD]; exact balloc _ _
          have Vq := Lib.hid (va_one br 3 HWR.out); rw [hD] at Vq
          clear hD
          have ht := wrote_below HWR.out.lt hb
          replace Vp := Lib.hid (Vp.out.wrote ht)
          replace Vr := Lib.hid (Vr.out.wrote ht)
          replace HBB := Lib.hid (HBB.out.trans ht)
          replace HWR := Lib.hid (HWR.out.below hb)
          clear hb ht
          generalize D54.heap.size = q at *
          refine wpAnyH_ready (rs := [13]) (by kernel_rfl) (by simp) ?_
          refine AllReadyH.cons (o := ?_) ?_ (fun K hK => ?_) AllReadyH.nil
          rotate_left 1
          · (simp only [List.getElem?_toArray, List.getElem?_cons_succ, List.getElem?_cons_zero]; first | done | rfl)
          go_simp
          go_at_call 29
          refine (wbyte_va HWR.out Vq.out (by simp [encText_len]; omega)).mono ?_
          rintro e D56 ⟨rfl, hwr, hwt⟩
          first | (refine hK.out _ _ ?_ (fun hq6 => ?_)) | (go_wp2_with fail; refine hK.out _ _ ?_ (fun hq6 => ?_))
          · exact HSALL.out _ (HBB.out.trans hwt)
          clear hK K
          (try simp only [Act.put, List.setIfInBounds_toArray, List.set_cons_zero, List.set_cons_succ])
          clear hq5
          replace Vp := Lib.hid (Vp.out.wrote hwt)
          replace Vr := Lib.hid (Vr.out.wrote hwt)
          replace Vq := Lib.hid (Vq.out.wrote hwt)
          replace HBB := Lib.hid (HBB.out.trans hwt)
          replace HWR := Lib.hid hwr
          clear hwr hwt
          refine wpAnyH_ready (rs := [16]) (by kernel_rfl) (by simp) ?_
          refine AllReadyH.cons (o := ?_) ?_ (fun K hK => ?_) AllReadyH.nil
          rotate_left 1
          · (simp only [List.getElem?_toArray, List.getElem?_cons_succ, List.getElem?_cons_zero]; first | done | rfl)
          go_simp
          go_at_call 14
          refine (wfilter_any b _ sc c0 cc cs _ w0 HWR.out HCL.out (HBL.out _ (HWT0.out.trans HBB.out)) hle HNUM.out (by simp [encText_len]; omega) hlm).mono ?_
          rintro e D57 ⟨rfl, hwr, hwt⟩
          first | (refine hK.out _ _ ?_ (fun hq7 => ?_)) | (go_wp2_with fail; refine hK.out _ _ ?_ (fun hq7 => ?_))
          · exact HSALL.out _ (HBB.out.trans hwt)
          clear hK K
          (try simp only [Act.put, List.setIfInBounds_toArray, List.set_cons_zero, List.set_cons_succ])
          clear hq6
          replace Vp := Lib.hid (Vp.out.wrote hwt)
          replace Vr := Lib.hid (Vr.out.wrote hwt)
          replace Vq := Lib.hid (Vq.out.wrote hwt)
          replace HBB := Lib.hid (HBB.out.trans hwt)
          replace HWR := Lib.hid hwr
          clear hwr hwt
          refine wpAnyH_ready (rs := [19]) (by kernel_rfl) (by simp) ?_
          refine AllReadyH.cons (o := ?_) ?_ (fun K hK => ?_) AllReadyH.nil
          rotate_left 1
          · (simp only [List.getElem?_toArray, List.getElem?_cons_succ, List.getElem?_cons_zero]; first | done | rfl)
          go_simp
          go_at_call 31
          refine (wtext_any b _ nm _ HWR.out (by simp [encText_len]; omega)).mono ?_
          rintro e D58 ⟨rfl, hwr, hwt⟩
          first | (refine hK.out _ _ ?_ (fun hq8 => ?_)) | (go_wp2_with fail; refine hK.out _ _ ?_ (fun hq8 => ?_))
          · exact HSALL.out _ (HBB.out.trans hwt)
          clear hK K
          (try simp only [Act.put, List.setIfInBounds_toArray, List.set_cons_zero, List.set_cons_succ])
          clear hq7
          replace Vp := Lib.hid (Vp.out.wrote hwt)
          replace Vr := Lib.hid (Vr.out.wrote hwt)
          replace Vq := Lib.hid (Vq.out.wrote hwt)
          replace HBB := Lib.hid (HBB.out.trans hwt)
          replace HWR := Lib.hid hwr
          clear hwr hwt
          refine wpAnyH_ready (rs := [23]) (by kernel_rfl) (by simp) ?_
          refine AllReadyH.cons (o := ?_) ?_ (fun K hK => ?_) AllReadyH.nil
          rotate_left 1
          · (simp only [List.getElem?_toArray, List.getElem?_cons_succ, List.getElem?_cons_zero]; first | done | rfl)
          go_simp
          go_at_call 29
          refine (wbyte_va HWR.out Vr.out (by simp [encText_len]; omega)).mono ?_
          rintro e D59 ⟨rfl, hwr, hwt⟩
          first | (refine hK.out _ _ ?_ (fun hq9 => ?_)) | (go_wp2_with fail; refine hK.out _ _ ?_ (fun hq9 => ?_))
          · exact HSALL.out _ (HBB.out.trans hwt)
          clear hK K
          (try simp only [Act.put, List.setIfInBounds_toArray, List.set_cons_zero, List.set_cons_succ])
          clear hq8
          replace Vp := Lib.hid (Vp.out.wrote hwt)
          replace Vr := Lib.hid (Vr.out.wrote hwt)
          replace Vq := Lib.hid (Vq.out.wrote hwt)
          replace HBB := Lib.hid (HBB.out.trans hwt)
          replace HWR := Lib.hid hwr
          clear hwr hwt
          refine wpAnyH_done (by kernel_rfl) ?_ _
          go_wp2_with fail
          first | go_end0 | refine bodyPost_ret (results_none rfl _ _ _) rfl ?_
          exact ⟨rfl, by rw [HE.out]; simpa only [List.append_assoc, List.map_cons, List.map_nil] using HWR.out, HWT0.out.trans HBB.out⟩
        · skip
          go_simp
          refine hK.out _ _ ?_ (fun hq4 => ?_)
          · exact HSALL.out _ (HBB.out.trans (wrote_below HWR.out.lt (balloc _ _)))
          clear hK K
          (try simp only [Act.put, List.setIfInBounds_toArray, List.set_cons_zero, List.set_cons_succ])
          clear hq3
          generalize hD : World.alloc D53 _ = D60 at hq4 ⊢
          have hb : Below D53.heap.size D53 D60 := by rw [← hD]; exact balloc _ _
          have Vq := Lib.hid (va_one br 3 HWR.out); rw [hD] at Vq
          clear hD
          have ht := wrote_below HWR.out.lt hb
          replace Vp := Lib.hid (Vp.out.wrote ht)
          replace Vr := Lib.hid (Vr.out.wrote ht)
          replace HBB := Lib.hid (HBB.out.trans ht)
          replace HWR := Lib.hid (HWR.out.below hb)
          clear hb ht
          generalize D53.heap.size = q at *
          refine wpAnyH_ready (rs := [9]) (by kernel_rfl) (by simp) ?_
          refine AllReadyH.cons (o := ?_) ?_ (fun K hK => ?_) AllReadyH.nil
          rotate_left 1
          · (simp only [List.getElem?_toArray, List.getElem?_cons_succ, List.getElem?_cons_zero]; first | done | rfl)
          go_simp
          go_at_call 31
          refine (wtext_any b _ who _ HWR.out (by simp; omega)).mono ?_
          rintro e D61 ⟨rfl, hwr, hwt⟩
          first | (refine hK.out _ _ ?_ (fun hq5 => ?_)) | (go_wp2_with fail; refine hK.out _ _ ?_ (fun hq5 => ?_))
          · exact HSALL.out _ (HBB.out.trans hwt)
          clear hK K
          (try simp only [Act.put, List.setIfInBounds_toArray, List.set_cons_zero, List.set_cons_succ])
          clear hq4
          replace Vp := Lib.hid (Vp.out.wrote hwt)
          replace Vr := Lib.hid (Vr.out.wrote hwt)
          replace Vq := Lib.hid (Vq.out.wrote hwt)
          replace HBB := Lib.hid (HBB.out.trans hwt)
          replace HWR := Lib.hid hwr
          clear hwr hwt
          refine wpAnyH_ready (rs := [13]) (by kernel_rfl) (by simp) ?_
          refine AllReadyH.cons (o := ?_) ?_ (fun K hK => ?_) AllReadyH.nil
          rotate_left 1
          · (simp only [List.getElem?_toArray, List.getElem?_cons_succ, List.getElem?_cons_zero]; first | done | rfl)
          go_simp
          go_at_call 29
          refine (wbyte_va HWR.out Vq.out (by simp [encText_len]; omega)).mono ?_
          rintro e D62 ⟨rfl, hwr, hwt⟩
          first | (refine hK.out _ _ ?_ (fun hq6 => ?_)) | (go_wp2_with fail; refine hK.out _ _ ?_ (fun hq6 => ?_))
          · exact HSALL.out _ (HBB.out.trans hwt)
          clear hK K
          (try simp only [Act.put, List.setIfInBounds_toArray, List.set_cons_zero, List.set_cons_succ])
          clear hq5
          replace Vp := Lib.hid (Vp.out.wrote hwt)
          replace Vr := Lib.hid (Vr.out.wrote hwt)
          replace Vq := Lib.hid (Vq.out.wrote hwt)
          replace HBB := Lib.hid (HBB.out.trans hwt)
          replace HWR := Lib.hid hwr
          clear hwr hwt
          refine wpAnyH_ready (rs := [16]) (by kernel_rfl) (by simp) ?_
          refine AllReadyH.cons (o := ?_) ?_ (fun K hK => ?_) AllReadyH.nil
          rotate_left 1
          · (simp only [List.getElem?_toArray, List.getElem?_cons_succ, List.getElem?_cons_zero]; first | done | rfl)
          go_simp
          go_at_call 14
          refine (wfilter_any b _ sc c0 cc cs _ w0 HWR.out HCL.out (HBL.out _ (HWT0.out.trans HBB.out)) hle HNUM.out (by simp [encText_len]; omega) hlm).mono ?_
          rintro e D63 ⟨rfl, hwr, hwt⟩
          first | (refine hK.out _ _ ?_ (fun hq7 => ?_)) | (go_wp2_with fail; refine hK.out _ _ ?_ (fun hq7 => ?_))
          · exact HSALL.out _ (HBB.out.trans hwt)
          clear hK K
          (try simp only [Act.put, List.setIfInBounds_toArray, List.set_cons_zero, List.set_cons_succ])
          clear hq6
          replace Vp := Lib.hid (Vp.out.wrote hwt)
          replace Vr := Lib.hid (Vr.out.wrote hwt)
          replace Vq := Lib.hid (Vq.out.wrote hwt)
          replace HBB := Lib.hid (HBB.out.trans hwt)
          replace HWR := Lib.hid hwr
          clear hwr hwt
          refine wpAnyH_ready (rs := [19]) (by kernel_rfl) (by simp) ?_
          refine AllReadyH.cons (o := ?_) ?_ (fun K hK => ?_) AllReadyH.nil
          rotate_left 1
          · (simp only [List.getElem?_toArray, List.getElem?_cons_succ, List.getElem?_cons_zero]; first | done | rfl)
          go_simp
          go_at_call 31
          refine (wtext_any b _ nm _ HWR.out (by simp [encText_len]; omega)).mono ?_
          rintro e D64 ⟨rfl, hwr, hwt⟩
          first | (refine hK.out _ _ ?_ (fun hq8 => ?_)) | (go_wp2_with fail; refine hK.out _ _ ?_ (fun hq8 => ?_))
          · exact HSALL.out _ (HBB.out.trans hwt)
          clear hK K
          (try simp only [Act.put, List.setIfInBounds_toArray, List.set_cons_zero, List.set_cons_succ])
          clear hq7
          replace Vp := Lib.hid (Vp.out.wrote hwt)
          replace Vr := Lib.hid (Vr.out.wrote hwt)
          replace Vq := Lib.hid (Vq.out.wrote hwt)
          replace HBB := Lib.hid (HBB.out.trans hwt)
          replace HWR := Lib.hid hwr
          clear hwr hwt
          refine wpAnyH_ready (rs := [23]) (by kernel_rfl) (by simp) ?_
          refine AllReadyH.cons (o := ?_) ?_ (fun K hK => ?_) AllReadyH.nil
          rotate_left 1
          · (simp only [List.getElem?_toArray, List.getElem?_cons_succ, List.getElem?_cons_zero]; first | done | rfl)
          go_simp
          go_at_call 29
          refine (wbyte_va HWR.out Vr.out (by simp [encText_len]; omega)).mono ?_
          rintro e D65 ⟨rfl, hwr, hwt⟩
          first | (refine hK.out _ _ ?_ (fun hq9 => ?_)) | (go_wp2_with fail; refine hK.out _ _ ?_ (fun hq9 => ?_))
          · exact HSALL.out _ (HBB.out.trans hwt)
          clear hK K
          (try simp only [Act.put, List.setIfInBounds_toArray, List.set_cons_zero, List.set_cons_succ])
          clear hq8
          replace Vp := Lib.hid (Vp.out.wrote hwt)
          replace Vr := Lib.hid (Vr.out.wrote hwt)
          replace Vq := Lib.hid (Vq.out.wrote hwt)
          replace HBB := Lib.hid (HBB.out.trans hwt)
          replace HWR := Lib.hid hwr
          clear hwr hwt
          refine wpAnyH_done (by kernel_rfl) ?_ _
          go_wp2_with fail
          first | go_end0 | refine bodyPost_ret (results_none rfl _ _ _) rfl ?_
          exact ⟨rfl, by rw [HE.out]; simpa only [List.append_assoc, List.map_cons, List.map_nil] using HWR.out, HWT0.out.trans HBB.out⟩
    · skip
      go_simp
      refine hK.out _ _ ?_ (fun hq2 => ?_)
      · exact HSALL.out _ (HBB.out.trans (wrote_below HWR.out.lt (balloc _ _)))
      clear hK K
      (try simp only [Act.put, List.setIfInBounds_toArray, List.set_cons_zero, List.set_cons_succ])
      clear hq1
      generalize hD : World.alloc D1 _ = D66 at hq2 ⊢
      have hb : Below D1.heap.size D1 D66 := by rw [← hD]; exact balloc _ _
      have Vq := Lib.hid (va_one br 3 HWR.out); rw [hD] at Vq
      clear hD
      have ht := wrote_below HWR.out.lt hb
      replace Vp := Lib.hid (Vp.out.wrote ht)
      replace HBB := Lib.hid (HBB.out.trans ht)
      replace HWR := Lib.hid (HWR.out.below hb)
      clear hb ht
      generalize D1.heap.size = q at *
      refine wpAnyH_ready (rs := [6, 22]) (by kernel_rfl) (by simp) ?_
      refine AllReadyH.cons (o := ?_) ?_ (fun K hK => ?_) ?_
      rotate_left 1
      · (simp only [List.getElem?_toArray, List.getElem?_cons_succ, List.getElem?_cons_zero]; first | done | rfl)
      rotate_left 1
      refine AllReadyH.cons (o := ?_) ?_ (fun K hK => ?_) AllReadyH.nil
      rotate_left 1
      · (simp only [List.getElem?_toArray, List.getElem?_cons_succ, List.getElem?_cons_zero]; first | done | rfl)
      rotate_left 1
      · skip
        go_simp
        go_at_call 29
        refine (wbyte_va HWR.out Vp.out (by simp; omega)).mono ?_
        rintro e D67 ⟨rfl, hwr, hwt⟩
        first | (refine hK.out _ _ ?_ (fun hq3 => ?_)) | (go_wp2_with fail; refine hK.out _ _ ?_ (fun hq3 => ?_))
        · exact HSALL.out _ (HBB.out.trans hwt)
        clear hK K
        (try simp only [Act.put, List.setIfInBounds_toArray, List.set_cons_zero, List.set_cons_succ])
        clear hq2
        replace Vp := Lib.hid (Vp.out.wrote hwt)
        replace Vq := Lib.hid (Vq.out.wrote hwt)
        replace HBB := Lib.hid (HBB.out.trans hwt)
        replace HWR := Lib.hid hwr
        clear hwr hwt
        refine wpAnyH_ready (rs := [9, 22]) (by kernel_rfl) (by simp) ?_
        refine AllReadyH.cons (o := ?_) ?_ (fun K hK => ?_) ?_
        rotate_left 1
        · (simp only [List.getElem?_toArray, List.getElem?_cons_succ, List.getElem?_cons_zero]; first | done | rfl)
        rotate_left 1
        refine AllReadyH.cons (o := ?_) ?_ (fun K hK => ?_) AllReadyH.nil
        rotate_left 1
        · (simp only [List.getElem?_toArray, List.getElem?_cons_succ, List.getElem?_cons_zero]; first | done | rfl)
        rotate_left 1
        · skip
          go_simp
          go_at_call 31
          refine (wtext_any b _ who _ HWR.out (by simp; omega)).mono ?_
          rintro e D68 ⟨rfl, hwr, hwt⟩
          first | (refine hK.out _ _ ?_ (fun hq4 => ?_)) | (go_wp2_with fail; refine hK.out _ _ ?_ (fun hq4 => ?_))
          · exact HSALL.out _ (HBB.out.trans hwt)
          clear hK K
          (try simp only [Act.put, List.setIfInBounds_toArray, List.set_cons_zero, List.set_cons_succ])
          clear hq3
          replace Vp := Lib.hid (Vp.out.wrote hwt)
          replace Vq := Lib.hid (Vq.out.wrote hwt)
          replace HBB := Lib.hid (HBB.out.trans hwt)
          replace HWR := Lib.hid hwr
          clear hwr hwt
          refine wpAnyH_ready (rs := [13, 22]) (by kernel_rfl) (by simp) ?_
          refine AllReadyH.cons (o := ?_) ?_ (fun K hK => ?_) ?_
          rotate_left 1
          · (simp only [List.getElem?_toArray, List.getElem?_cons_succ, List.getElem?_cons_zero]; first | done | rfl)
          rotate_left 1
          refine AllReadyH.cons (o := ?_) ?_ (fun K hK => ?_) AllReadyH.nil
          rotate_left 1
          · (simp only [List.getElem?_toArray, List.getElem?_cons_succ, List.getElem?_cons_zero]; first | done | rfl)
          rotate_left 1
          · skip
            go_simp
            go_at_call 29
            refine (wbyte_va HWR.out Vq.out (by simp [encText_len]; omega)).mono ?_
            rintro e D69 ⟨rfl, hwr, hwt⟩
            first | (refine hK.out _ _ ?_ (fun hq5 => ?_)) | (go_wp2_with fail; refine hK.out _ _ ?_ (fun hq5 => ?_))
            · exact HSALL.out _ (HBB.out.trans hwt)
            clear hK K
            (try simp only [Act.put, List.setIfInBounds_toArray, List.set_cons_zero, List.set_cons_succ])
            clear hq4
            replace Vp := Lib.hid (Vp.out.wrote hwt)
            replace Vq := Lib.hid (Vq.out.wrote hwt)
            replace HBB := Lib.hid (HBB.out.trans hwt)
            replace HWR := Lib.hid hwr
            clear hwr hwt
            refine wpAnyH_ready (rs := [16, 22]) (by kernel_rfl) (by simp) ?_
            refine AllReadyH.cons (o := ?_) ?_ (fun K hK => ?_) ?_
            rotate_left 1
            · (simp only [List.getElem?_toArray, List.getElem?_cons_succ, List.getElem?_cons_zero]; first | done | rfl)
            rotate_left 1
            refine AllReadyH.cons (o := ?_) ?_ (fun K hK => ?_) AllReadyH.nil
            rotate_left 1
            · (simp only [List.getElem?_toArray, List.getElem?_cons_succ, List.getElem?_cons_zero]; first | done | rfl)
            rotate_left 1
            · skip
              go_simp
              go_at_call 14
              refine (wfilter_any b _ sc c0 cc cs _ w0 HWR.out HCL.out (HBL.out _ (HWT0.out.trans HBB.out)) hle HNUM.out (by simp [encText_len]; omega) hlm).mono ?_
              rintro e D70 ⟨rfl, hwr, hwt⟩
              first | (refine hK.out _ _ ?_ (fun hq6 => ?_)) | (go_wp2_with fail; refine hK.out _ _ ?_ (fun hq6 => ?_))
              · exact HSALL.out _ (HBB.out.trans hwt)
              clear hK K
              (try simp only [Act.put, List.setIfInBounds_toArray, List.set_cons_zero, List.set_cons_succ])
              clear hq5
              replace Vp := Lib.hid (Vp.out.wrote hwt)
              replace Vq := Lib.hid (Vq.out.wrote hwt)
              replace HBB := Lib.hid (HBB.out.trans hwt)
              replace HWR := Lib.hid hwr
              clear hwr hwt
              refine wpAnyH_ready (rs := [19, 22]) (by kernel_rfl) (by simp) ?_
              refine AllReadyH.cons (o := ?_) ?_ (fun K hK => ?_) ?_
              rotate_left 1
              · (simp only [List.getElem?_toArray, List.getElem?_cons_succ, List.getElem?_cons_zero]; first | done | rfl)
              rotate_left 1
              refine AllReadyH.cons (o := ?_) ?_ (fun K hK => ?_) AllReadyH.nil
              rotate_left 1
              · (simp only [List.getElem?_toArray, List.getElem?_cons_succ, List.getElem?_cons_zero]; first | done | rfl)
              rotate_left 1
              · skip
                go_simp
                go_at_call 31
                refine (wtext_any b _ nm _ HWR.out (by simp [encText_len]; omega)).mono ?_
                rintro e D71 ⟨rfl, hwr, hwt⟩
                first | (refine hK.out _ _ ?_ (fun hq7 => ?_)) | (go_wp2_with fail; refine hK.out _ _ ?_ (fun hq7 => ?_))
                · exact HSALL.out _ (HBB.out.trans hwt)
                clear hK K
                (try simp only [Act.put, List.setIfInBounds_toArray, List.set_cons_zero, List.set_cons_succ])
                clear hq6
                replace Vp := Lib.hid (Vp.out.wrote hwt)
                replace Vq := Lib.hid (Vq.out.wrote hwt)
                replace HBB := Lib.hid (HBB.out.trans hwt)
                replace HWR := Lib.hid hwr
                clear hwr hwt
                refine wpAnyH_ready (rs := [22]) (by kernel_rfl) (by simp) ?_
                refine AllReadyH.cons (o := ?_) ?_ (fun K hK => ?_) AllReadyH.nil
                rotate_left 1
                · (simp only [List.getElem?_toArray, List.getElem?_cons_succ, List.getElem?_cons_zero]; first | done | rfl)
                go_simp
                refine hK.out _ _ ?_ (fun hq8 => ?_)
                · exact HSALL.out _ (HBB.out.trans (wrote_below HWR.out.lt (balloc _ _)))
                clear hK K
                (try simp only [Act.put, List.setIfInBounds_toArray, List.set_cons_zero, List.set_cons_succ])
                clear hq7
                generalize hD : World.alloc D71 _ = D72 at hq8 ⊢
                have hb : Below D71.heap.size D71 D72 := by rw [← hD]; exact balloc _ _
                have Vr := Lib.hid (va_one pl 3 HWR.out); rw [hD] at Vr
                clear hD
                have ht := wrote_below HWR.out.lt hb
                replace Vp := Lib.hid (Vp.out.wrote ht)
                replace Vq := Lib.hid (Vq.out.wrote ht)
                replace HBB := Lib.hid (HBB.out.trans ht)
                replace HWR := Lib.hid (HWR.out.below hb)
                clear hb ht
                generalize D71.heap.size = r at *
                refine wpAnyH_ready (rs := [23]) (by kernel_rfl) (by simp) ?_
                refine AllReadyH.cons (o := ?_) ?_ (fun K hK => ?_) AllReadyH.nil
                rotate_left 1
                · (simp only [List.getElem?_toArray, List.getElem?_cons_succ, List.getElem?_cons_zero]; first | done | rfl)
                go_simp
                go_at_call 29
                refine (wbyte_va HWR.out Vr.out (by simp [encText_len]; omega)).mono ?_
                rintro e D73 ⟨rfl, hwr, hwt⟩
                first | (refine hK.out _ _ ?_ (fun hq9 => ?_)) | (go_wp2_with fail; refine hK.out _ _ ?_ (fun hq9 => ?_))
                · exact HSALL.out _ (HBB.out.trans hwt)
                clear hK K
                (try simp only [Act.put, List.setIfInBounds_toArray, List.set_cons_zero, List.set_cons_succ])
                clear hq8
                replace Vp := Lib.hid (Vp.out.wrote hwt)
                replace Vq := Lib.hid (Vq.out.wrote hwt)
                replace Vr := Lib.hid (Vr.out.wrote hwt)
                replace HBB := Lib.hid (HBB.out.trans hwt)
                replace HWR := Lib.hid hwr
                clear hwr hwt
                refine wpAnyH_done (by kernel_rfl) ?_ _
                go_wp2_with fail
                first | go_end0 | refine bodyPost_ret (results_none rfl _ _ _) rfl ?_
                exact ⟨rfl, by rw [HE.out]; simpa only [List.append_assoc, List.map_cons, List.map_nil] using HWR.out, HWT0.out.trans HBB.out⟩
              · skip
                go_simp
                refine hK.out _ _ ?_ (fun hq7 => ?_)
                · exact HSALL.out _ (HBB.out.trans (wrote_below HWR.out.lt (balloc _ _)))
                clear hK K
                (try simp only [Act.put, List.setIfInBounds_toArray, List.set_cons_zero, List.set_cons_succ])
                clear hq6
                generalize hD : World.alloc D70 _ = D74 at hq7 ⊢
                have hb : Below D70.heap.size D70 D74 := by rw [← hD]; exact balloc _ _
                have Vr := Lib.hid (va_one pl 3 HWR.out); rw [hD] at Vr
                clear hD
                have ht := wrote_below HWR.out.lt hb
                replace Vp := Lib.hid (Vp.out.wrote ht)
                replace Vq := Lib.hid (Vq.out.wrote ht)
                replace HBB := Lib.hid (HBB.out.trans ht)
                replace HWR := Lib.hid (HWR.out.below hb)
                clear hb ht
                generalize D70.heap.size = r at *
                refine wpAnyH_ready (rs := [19]) (by kernel_rfl) (by simp) ?_
                refine AllReadyH.cons (o := ?_) ?_ (fun K hK => ?_) AllReadyH.nil
                rotate_left 1
                · (simp only [List.getElem?_toArray, List.getElem?_cons_succ, List.getElem?_cons_zero]; first | done | rfl)
                go_simp
                go_at_call 31
                refine (wtext_any b _ nm _ HWR.out (by simp [encText_len]; omega)).mono ?_
                rintro e D75 ⟨rfl, hwr, hwt⟩
                first | (refine hK.out _ _ ?_ (fun hq8 => ?_)) | (go_wp2_with fail; refine hK.out _ _ ?_ (fun hq8 => ?_))
                · exact HSALL.out _ (HBB.out.trans hwt)
                clear hK K
                (try simp only [Act.put, List.setIfInBounds_toArray, List.set_cons_zero, List.set_cons_succ])
                clear hq7
                replace Vp := Lib.hid (Vp.out.wrote hwt)
                replace Vq := Lib.hid (Vq.out.wrote hwt)
                replace Vr := Lib.hid (Vr.out.wrote hwt)
                replace HBB := Lib.hid (HBB.out.trans hwt)
                replace HWR := Lib.hid hwr
                clear hwr hwt
                refine wpAnyH_ready (rs := [23]) (by kernel_rfl) (by simp) ?_
                refine AllReadyH.cons (o := ?_) ?_ (fun K hK => ?_) AllReadyH.nil
                rotate_left 1
                · (simp only [List.getElem?_toArray, List.getElem?_cons_succ, List.getElem?_cons_zero]; first | done | rfl)
                go_simp
                go_at_call 29
                refine (wbyte_va HWR.out Vr.out (by simp [encText_len]; omega)).mono ?_
                rintro e D76 ⟨rfl, hwr, hwt⟩
                first | (refine hK.out _ _ ?_ (fun hq9 => ?_)) | (go_wp2_with fail; refine hK.out _ _ ?_ (fun hq9 => ?_))
                · exact HSALL.out _ (HBB.out.trans hwt)
                clear hK K
                (try simp only [Act.put, List.setIfInBounds_toArray, List.set_cons_zero, List.set_cons_succ])
                clear hq8
                replace Vp := Lib.hid (Vp.out.wrote hwt)
                replace Vq := Lib.hid (Vq.out.wrote hwt)
                replace Vr := Lib.hid (Vr.out.wrote hwt)
                replace HBB := Lib.hid (HBB.out.trans hwt)
                replace HWR := Lib.hid hwr
                clear hwr hwt
                refine wpAnyH_done (by kernel_rfl) ?_ _
                go_wp2_with fail
                first | go_end0 | refine bodyPost_ret (results_none rfl _ _ _) rfl ?_
                exact ⟨rfl, by rw [HE.out]; simpa only [List.append_assoc, List.map_cons, List.map_nil] using HWR.out, HWT0.out.trans HBB.out⟩
            · skip
              go_simp
              refine hK.out _ _ ?_ (fun hq6 => ?_)
              · exact HSALL.out _ (HBB.out.trans (wrote_below HWR.out.lt (balloc _ _)))
              clear hK K
              (try simp only [Act.put, List.setIfInBounds_toArray, List.set_cons_zero, List.set_cons_succ])
              clear hq5
              generalize hD : World.alloc D69 _ = D77 at hq6 ⊢
              have hb : Below D69.heap.size D69 D77 := by rw [← hD]; exact balloc _ _
              have Vr := Lib.hid (va_one pl 3 HWR.out); rw [hD] at Vr
              clear hD
              have ht := wrote_below HWR.out.lt hb
              replace Vp := Lib.hid (Vp.out.wrote ht)
              replace Vq := Lib.hid (Vq.out.wrote ht)
              replace HBB := Lib.hid (HBB.out.trans ht)
              replace HWR := Lib.hid (HWR.out.below hb)
              clear hb ht
              generalize D69.heap.size = r at *
              refine wpAnyH_ready (rs := [16]) (by kernel_rfl) (by simp) ?_
              refine AllReadyH.cons (o := ?_) ?_ (fun K hK => ?_) AllReadyH.nil
              rotate_left 1
              · (simp only [List.getElem?_toArray, List.getElem?_cons_succ, List.getElem?_cons_zero]; first | done | rfl)
              go_simp
              go_at_call 14
              refine (wfilter_any b _ sc c0 cc cs _ w0 HWR.out HCL.out (HBL.out _ (HWT0.out.trans HBB.out)) hle HNUM.out (by simp [encText_len]; omega) hlm).mono ?_
              rintro e D78 ⟨rfl, hwr, hwt⟩
              first | (refine hK.out _ _ ?_ (fun hq7 => ?_)) | (go_wp2_with fail; refine hK.out _ _ ?_ (fun hq7 => ?_))
              · exact HSALL.out _ (HBB.out.trans hwt)
              clear hK K
              (try simp only [Act.put, List.setIfInBounds_toArray, List.set_cons_zero, List.set_cons_succ])
              clear hq6
              replace Vp := Lib.hid (Vp.out.wrote hwt)
              replace Vq := Lib.hid (Vq.out.wrote hwt)
              replace Vr := Lib.hid (Vr.out.wrote hwt)
              replace HBB := Lib.hid (HBB.out.trans hwt)
              replace HWR := Lib.hid hwr
              clear hwr hwt
              refine wpAnyH_ready (rs := [19]) (by kernel_rfl) (by simp) ?_
              refine AllReadyH.cons (o := ?_) ?_ (fun K hK => ?_) AllReadyH.nil
              rotate_left 1
              · (simp only [List.getElem?_toArray, List.getElem?_cons_succ, List.getElem?_cons_zero]; first | done | rfl)
              go_simp
              go_at_call 31
              refine (wtext_any b _ nm _ HWR.out (by simp [encText_len]; omega)).mono ?_
              rintro e D79 ⟨rfl, hwr, hwt⟩
              first | (refine hK.out _ _ ?_ (fun hq8 => ?_)) | (go_wp2_with fail; refine hK.out _ _ ?_ (fun hq8 => ?_))
              · exact HSALL.out _ (HBB.out.trans hwt)
              clear hK K
              (try simp only [Act.put, List.setIfInBounds_toArray, List.set_cons_zero, List.set_cons_succ])
              clear hq7
              replace Vp := Lib.hid (Vp.out.wrote hwt)
              replace Vq := Lib.hid (Vq.out.wrote hwt)
              replace Vr := Lib.hid (Vr.out.wrote hwt)
              replace HBB := Lib.hid (HBB.out.trans hwt)
              replace HWR := Lib.hid hwr
              clear hwr hwt
              refine wpAnyH_ready (rs := [23]) (by kernel_rfl) (by simp) ?_
              refine AllReadyH.cons (o := ?_) ?_ (fun K hK => ?_) AllReadyH.nil
              rotate_left 1
              · (simp only [List.getElem?_toArray, List.getElem?_cons_succ, List.getElem?_cons_zero]; first | done | rfl)
              go_simp
              go_at_call 29
              refine (wbyte_va HWR.out Vr.out (by simp [encText_len]; omega)).mono ?_
              rintro e D80 ⟨rfl, hwr, hwt⟩
              first | (refine hK.out _ _ ?_ (fun hq9 => ?_)) | (go_wp2_with fail; refine hK.out _ _ ?_ (fun hq9 => ?_))
              · exact HSALL.out _ (HBB.out.trans hwt)
              clear hK K
              (try simp only [Act.put, List.setIfInBounds_toArray, List.set_cons_zero, List.set_cons_succ])
              clear hq8
              replace Vp := Lib.hid (Vp.out.wrote hwt)
              replace Vq := Lib.hid (Vq.out.wrote hwt)
              replace Vr := Lib.hid (Vr.out.wrote hwt)
              replace HBB := Lib.hid (HBB.out.trans hwt)
              replace HWR := Lib.hid hwr
              clear hwr hwt
              refine wpAnyH_done (by kernel_rfl) ?_ _
              go_wp2_with fail
              first | go_end0 | refine bodyPost_ret (results_none rfl _ _ _) rfl ?_
              exact ⟨rfl, by rw [HE.out]; simpa only [List.append_assoc, List.map_cons, List.map_nil] using HWR.out, HWT0.out.trans HBB.out⟩
          · skip
            go_simp
            refine hK.out _ _ ?_ (fun hq5 => ?_)
            · exact HSALL.out _ (HBB.out.trans (wrote_below HWR.out.lt (balloc _ _)))
            clear hK K
            (try simp only [Act.put, List.setIfInBounds_toArray, List.set_cons_zero, List.set_cons_succ])
            clear hq4
            generalize hD : World.alloc D68 _ = D81 at hq5 ⊢
            have hb : Below D68.heap.size D68 D81 := by rw [← hD]; exact balloc _ _
            have Vr := Lib.hid (va_one pl 3 HWR.out); rw [hD] at Vr
            clear hD
            have ht := wrote_below HWR.out.lt hb
            replace Vp := Lib.hid (Vp.out.wrote ht)
            replace Vq := Lib.hid (Vq.out.wrote ht)
            replace HBB := Lib.hid (HBB.out.trans ht)
            replace HWR := Lib.hid (HWR.out.below hb)
            clear hb ht
            generalize D68.heap.size = r at *
            refine wpAnyH_ready (rs := [13]) (by kernel_rfl) (by simp) ?_
            refine AllReadyH.cons (o := ?_) ?_ (fun K hK => ?_) AllReadyH.nil
            rotate_left 1
            · (simp only [List.getElem?_toArray, List.getElem?_cons_succ, List.getElem?_cons_zero]; first | done | rfl)
            go_simp
            go_at_call 29
            refine (wbyte_va HWR.out Vq.out (by simp [encText_len]; omega)).mono ?_
            rintro e D82 ⟨rfl, hwr, hwt⟩
            first | (refine hK.out _ _ ?_ (fun hq6 => ?_)) | (go_wp2_with fail; refine hK.out _ _ ?_ (fun hq6 => ?_))
            · exact HSALL.out _ (HBB.out.trans hwt)
            clear hK K
            (try simp only [Act.put, List.setIfInBounds_toArray, List.set_cons_zero, List.set_cons_succ])
            clear hq5
            replace Vp := Lib.hid (Vp.out.wrote hwt)
            replace Vq := Lib.hid (Vq.out.wrote hwt)
            replace Vr := Lib.hid (Vr.out.wrote hwt)
            replace HBB := Lib.hid (HBB.out.trans hwt)
            replace HWR := Lib.hid hwr
            clear hwr hwt
            refine wpAnyH_ready (rs := [16]) (by kernel_rfl) (by simp) ?_
            refine AllReadyH.cons (o := ?_) ?_ (fun K hK => ?_) AllReadyH.nil
            rotate_left 1
            · (simp only [List.getElem?_toArray, List.getElem?_cons_succ, List.getElem?_cons_zero]; first | done | rfl)
            go_simp
            go_at_call 14
            refine (wfilter_any b _ sc c0 cc cs _ w0 HWR.out HCL.out (HBL.out _ (HWT0.out.trans HBB.out)) hle HNUM.out (by simp [encText_len]; omega) hlm).mono ?_
            rintro e D83 ⟨rfl, hwr, hwt⟩
            first | (refine hK.out _ _ ?_ (fun hq7 => ?_)) | (go_wp2_with fail; refine hK.out _ _ ?_ (fun hq7 => ?_))
            · exact HSALL.out _ (HBB.out.trans hwt)
            clear hK K
            (try simp only [Act.put, List.setIfInBounds_toArray, List.set_cons_zero, List.set_cons_succ])
            clear hq6
            replace Vp := Lib.hid (Vp.out.wrote hwt)
            replace Vq := Lib.hid (Vq.out.wrote hwt)
            replace Vr := Lib.hid (Vr.out.wrote hwt)
            replace HBB := Lib.hid (HBB.out.trans hwt)
            replace HWR := Lib.hid hwr
            clear hwr hwt
            refine wpAnyH_ready (rs := [19]) (by kernel_rfl) (by simp) ?_
            refine AllReadyH.cons (o := ?_) ?_ (fun K hK => ?_) AllReadyH.nil
            rotate_left 1
            · (simp only [List.getElem?_toArray, List.getElem?_cons_succ, List.getElem?_cons_zero]; first | done | rfl)
            go_simp
            go_at_call 31
            refine (wtext_any b _ nm _ HWR.out (by simp [encText_len]; omega)).mono ?_
            rintro e D84 ⟨rfl, hwr, hwt⟩
            first | (refine hK.out _ _ ?_ (fun hq8 => ?_)) | (go_wp2_with fail; refine hK.out _ _ ?_ (fun hq8 => ?_))
            · exact HSALL.out _ (HBB.out.trans hwt)
            clear hK K
            (try simp only [Act.put, List.setIfInBounds_toArray, List.set_cons_zero, List.set_cons_succ])
            clear hq7
            replace Vp := Lib.hid (Vp.out.wrote hwt)
            replace Vq := Lib.hid (Vq.out.wrote hwt)
            replace Vr := Lib.hid (Vr.out.wrote hwt)
            replace HBB := Lib.hid (HBB.out.trans hwt)
            replace HWR := Lib.hid hwr
            clear hwr hwt
            refine wpAnyH_ready (rs := [23]) (by kernel_rfl) (by simp) ?_
            refine AllReadyH.cons (o := ?_) ?_ (fun K hK => ?_) AllReadyH.nil
            rotate_left 1
            · (simp only [List.getElem?_toArray, List.getElem?_cons_succ, List.getElem?_cons_zero]; first | done | rfl)
            go_simp
            go_at_call 29
            refine (wbyte_va HWR.out Vr.out (by simp [encText_len]; omega)).mono ?_
            rintro e D85 ⟨rfl, hwr, hwt⟩
            first | (refine hK.out _ _ ?_ (fun hq9 => ?_)) | (go_wp2_with fail; refine hK.out _ _ ?_ (fun hq9 => ?_))
            · exact HSALL.out _ (HBB.out.trans hwt)
            clear hK K
            (try simp only [Act.put, List.setIfInBounds_toArray, List.set_cons_zero, List.set_cons_succ])
            clear hq8
            replace Vp := Lib.hid (Vp.out.wrote hwt)
            replace Vq := Lib.hid (Vq.out.wrote hwt)
            replace Vr := Lib.hid (Vr.out.wrote hwt)
            replace HBB := Lib.hid (HBB.out.trans hwt)
            replace HWR := Lib.hid hwr
            clear hwr hwt
            refine wpAnyH_done (by kernel_rfl) ?_ _
            go_wp2_with fail
            first | go_end0 | refine bodyPost_ret (results_none rfl _ _ _) rfl ?_
            exact ⟨rfl, by rw [HE.out]; simpa only [List.append_assoc, List.map_cons, List.map_nil] using HWR.out, HWT0.out.trans HBB.out⟩
        · skip
          go_simp
          refine hK.out _ _ ?_ (fun hq4 => ?_)
          · exact HSALL.out _ (HBB.out.trans (wrote_below HWR.out.lt (balloc _ _)))
          clear hK K
          (try simp only [Act.put, List.setIfInBounds_toArray, List.set_cons_zero, List.set_cons_succ])
          clear hq3
          generalize hD : World.alloc D67 _ = D86 at hq4 ⊢
          have hb : Below D67.heap.size D67 D86 := by rw [← hD]; exact balloc _ _
          have Vr := Lib.hid (va_one pl 3 HWR.out); rw [hD] at Vr
          clear hD
          have ht := wrote_below HWR.out.lt hb
          replace Vp := Lib.hid (Vp.out.wrote ht)
          replace Vq := Lib.hid (Vq.out.wrote ht)
          replace HBB := Lib.hid (HBB.out.trans ht)
          replace HWR := Lib.hid (HWR.out.below hb)
          clear hb ht
          generalize D67.heap.size = r at *
          refine wpAnyH_ready (rs := [9]) (by kernel_rfl) (by simp) ?_
          refine AllReadyH.cons (o := ?_) ?_ (fun K hK => ?_) AllReadyH.nil
          rotate_left 1
          · (simp only [List.getElem?_toArray, List.getElem?_cons_succ, List.getElem?_cons_zero]; first | done | rfl)
          go_simp
          go_at_call 31
          refine (wtext_any b _ who _ HWR.out (by simp; omega)).mono ?_
          rintro e D87 ⟨rfl, hwr, hwt⟩
          first | (refine hK.out _ _ ?_ (fun hq5 => ?_)) | (go_wp2_with fail; refine hK.out _ _ ?_ (fun hq5 => ?_))
          · exact HSALL.out _ (HBB.out.trans hwt)
          clear hK K
          (try simp only [Act.put, List.setIfInBounds_toArray, List.set_cons_zero, List.set_cons_succ])
          clear hq4
          replace Vp := Lib.hid (Vp.out.wrote hwt)
          replace Vq := Lib.hid (Vq.out.wrote hwt)
          replace Vr := Lib.hid (Vr.out.wrote hwt)
          replace HBB := Lib.hid (HBB.out.trans hwt)
          replace HWR := Lib.hid hwr
          clear hwr hwt
          refine wpAnyH_ready (rs := [13]) (by kernel_rfl) (by simp) ?_
          refine AllReadyH.cons (o := ?_) ?_ (fun K hK => ?_) AllReadyH.nil
          rotate_left 1
          · (simp only [List.getElem?_toArray, List.getElem?_cons_succ, List.getElem?_cons_zero]; first | done | rfl)
          go_simp
          go_at_call 29
          refine (wbyte_va HWR.out Vq.out (by simp [encText_len]; omega)).mono ?_
          rintro e D88 ⟨rfl, hwr, hwt⟩
          first | (refine hK.out _ _ ?_ (fun hq6 => ?_)) | (go_wp2_with fail; refine hK.out _ _ ?_ (fun hq6 => ?_))
          · exact HSALL.out _ (HBB.out.trans hwt)
          clear hK K
          (try simp only [Act.put, List.setIfInBounds_toArray, List.set_cons_zero, List.set_cons_succ])
          clear hq5
          replace Vp := Lib.hid (Vp.out.wrote hwt)
          replace Vq := Lib.hid (Vq.out.wrote hwt)
          replace Vr := Lib.hid (Vr.out.wrote hwt)
          replace HBB := Lib.hid (HBB.out.trans hwt)
          replace HWR := Lib.hid hwr
          clear hwr hwt
          refine wpAnyH_ready (rs := [16]) (by kernel_rfl) (by simp) ?_
          refine AllReadyH.cons (o := ?_) ?_ (fun K hK => ?_) AllReadyH.nil
          rotate_left 1
          · (simp only [List.getElem?_toArray, List.getElem?_cons_succ, List.getElem?_cons_zero]; first | done | rfl)
          go_simp
          go_at_call 14
          refine (wfilter_any b _ sc c0 cc cs _ w0 HWR.out HCL.out (HBL.out _ (HWT0.out.trans HBB.out)) hle HNUM.out (by simp [encText_len]; omega) hlm).mono ?_
          rintro e D89 ⟨rfl, hwr, hwt⟩
          first | (refine hK.out _ _ ?_ (fun hq7 => ?_)) | (go_wp2_with fail; refine hK.out _ _ ?_ (fun hq7 => ?_))
          · exact HSALL.out _ (HBB.out.trans hwt)
          clear hK K
          (try simp only [Act.put, List.setIfInBounds_toArray, List.set_cons_zero, List.set_cons_succ])
          clear hq6
          replace Vp := Lib.hid (Vp.out.wrote hwt)
          replace Vq := Lib.hid (Vq.out.wrote hwt)
          replace Vr := Lib.hid (Vr.out.wrote hwt)
          replace HBB := Lib.hid (HBB.out.trans hwt)
          replace HWR := Lib.hid hwr
          clear hwr hwt
          refine wpAnyH_ready (rs := [19]) (by kernel_rfl) (by simp) ?_
          refine AllReadyH.cons (o := ?_) ?_ (fun K hK => ?_) AllReadyH.nil
          rotate_left 1
          · (simp only [List.getElem?_toArray, List.getElem?_cons_succ, List.getElem?_cons_zero]; first | done | rfl)
          go_simp
          go_at_call 31
          refine (wtext_any b _ nm _ HWR.out (by simp [encText_len]; omega)).mono ?_
          rintro e D90 ⟨rfl, hwr, hwt⟩
          first | (refine hK.out _ _ ?_ (fun hq8 => ?_)) | (go_wp2_with fail; refine hK.out _ _ ?_ (fun hq8 => ?_))
          · exact HSALL.out _ (HBB.out.trans hwt)
          clear hK K
          (try simp only [Act.put, List.setIfInBounds_toArray, List.set_cons_zero, List.set_cons_succ])
          clear hq7
          replace Vp := Lib.hid (Vp.out.wrote hwt)
          replace Vq := Lib.hid (Vq.out.wrote hwt)
          replace Vr := Lib.hid (Vr.out.wrote hwt)
          replace HBB := Lib.hid (HBB.out.trans hwt)
          replace HWR := Lib.hid hwr
          clear hwr hwt
          refine wpAnyH_ready (rs := [23]) (by kernel_rfl) (by simp) ?_
          refine AllReadyH.cons (o := ?_) ?_ (fun K hK => ?_) AllReadyH.nil
          rotate_left 1
          · (simp only [List.getElem?_toArray, List.getElem?_cons_succ, List.getElem?_cons_zero]; first | done | rfl)
          go_simp
          go_at_call 29
          refine (wbyte_va HWR.out Vr.out (by simp [encText_len]; omega)).mono ?_
          rintro e D91 ⟨rfl, hwr, hwt⟩
          first | (refine hK.out _ _ ?_ (fun hq9 => ?_)) | (go_wp2_with fail; refine hK.out _ _ ?_ (fun hq9 => ?_))
          · exact HSALL.out _ (HBB.out.trans hwt)
          clear hK K
          (try simp only [Act.put, List.setIfInBounds_toArray, List.set_cons_zero, List.set_cons_succ])
          clear hq8
          replace Vp := Lib.hid (Vp.out.wrote hwt)
          replace Vq := Lib.hid (Vq.out.wrote hwt)
          replace Vr := Lib.hid (Vr.out.wrote hwt)
          replace HBB := Lib.hid (HBB.out.trans hwt)
          replace HWR := Lib.hid hwr
          clear hwr hwt
          refine wpAnyH_done (by kernel_rfl) ?_ _
          go_wp2_with fail
          first | go_end0 | refine bodyPost_ret (results_none rfl _ _ _) rfl ?_
          exact ⟨rfl, by rw [HE.out]; simpa only [List.append_assoc, List.map_cons, List.map_nil] using HWR.out, HWT0.out.trans HBB.out⟩
      · skip
        go_simp
        refine hK.out _ _ ?_ (fun hq3 => ?_)
        · exact HSALL.out _ (HBB.out.trans (wrote_below HWR.out.lt (balloc _ _)))
        clear hK K
        (try simp only [Act.put, List.setIfInBounds_toArray, List.set_cons_zero, List.set_cons_succ])
        clear hq2
        generalize hD : World.alloc D66 _ = D92 at hq3 ⊢
        have hb : Below D66.heap.size D66 D92 := by rw [← hD]; exact balloc _ _
        have Vr := Lib.hid (va_one pl 3 HWR.out); rw [hD] at Vr
        clear hD
        have ht := wrote_below HWR.out.lt hb
        replace Vp := Lib.hid (Vp.out.wrote ht)
        replace Vq := Lib.hid (Vq.out.wrote ht)
        replace HBB := Lib.hid (HBB.out.trans ht)
        replace HWR := Lib.hid (HWR.out.below hb)
        clear hb ht
        generalize D66.heap.size = r at *
        refine wpAnyH_ready (rs := [6]) (by kernel_rfl) (by simp) ?_
        refine AllReadyH.cons (o := ?_) ?_ (fun K hK => ?_) AllReadyH.nil
        rotate_left 1
        · (simp only [List.getElem?_toArray, List.getElem?_cons_succ, List.getElem?_cons_zero]; first | done | rfl)
        go_simp
        go_at_call 29
        refine (wbyte_va HWR.out Vp.out (by simp; omega)).mono ?_
        rintro e D93 ⟨rfl, hwr, hwt⟩
        first | (refine hK.out _ _ ?_ (fun hq4 => ?_)) | (go_wp2_with fail; refine hK.out _ _ ?_ (fun hq4 => ?_))
        · exact HSALL.out _ (HBB.out.trans hwt)
        clear hK K
        (try simp only [Act.put, List.setIfInBounds_toArray, List.set_cons_zero, List.set_cons_succ])
        clear hq3
        replace Vp := Lib.hid (Vp.out.wrote hwt)
        replace Vq := Lib.hid (Vq.out.wrote hwt)
        replace Vr := Lib.hid (Vr.out.wrote hwt)
        replace HBB := Lib.hid (HBB.out.trans hwt)
        replace HWR := Lib.hid hwr
        clear hwr hwt
        refine wpAnyH_ready (rs := [9]) (by kernel_rfl) (by simp) ?_
        refine AllReadyH.cons (o := ?_) ?_ (fun K hK => ?_) AllReadyH.nil
        rotate_left 1
        · (simp only [List.getElem?_toArray, List.getElem?_cons_succ, List.getElem?_cons_zero]; first | done | rfl)
        go_simp
        go_at_call 31
        refine (wtext_any b _ who _ HWR.out (by simp; omega)).mono ?_
        rintro e D94 ⟨rfl, hwr, hwt⟩
        first | (refine hK.out _ _ ?_ (fun hq5 => ?_)) | (go_wp2_with fail; refine hK.out _ _ ?_ (fun hq5 => ?_))
        · exact HSALL.out _ (HBB.out.trans hwt)
        clear hK K
        (try simp only [Act.put, List.setIfInBounds_toArray, List.set_cons_zero, List.set_cons_succ])
        clear hq4
        replace Vp := Lib.hid (Vp.out.wrote hwt)
        replace Vq := Lib.hid (Vq.out.wrote hwt)
        replace Vr := Lib.hid (Vr.out.wrote hwt)
        replace HBB := Lib.hid (HBB.out.trans hwt)
        replace HWR := Lib.hid hwr
        clear hwr hwt
        refine wpAnyH_ready (rs := [13]) (by kernel_rfl) (by simp) ?_
        refine AllReadyH.cons (o := ?_) ?_ (fun K hK => ?_) AllReadyH.nil
        rotate_left 1
        · (simp only [List.getElem?_toArray, List.getElem?_cons_succ, List.getElem?_cons_zero]; first | done | rfl)
        go_simp
        go_at_call 29
        refine (wbyte_va HWR.out Vq.out (by simp [encText_len]; omega)).mono ?_
        rintro e D95 ⟨rfl, hwr, hwt⟩
        first | (refine hK.out _ _ ?_ (fun hq6 => ?_)) | (go_wp2_with fail; refine hK.out _ _ ?_ (fun hq6 => ?_))
        · exact HSALL.out _ (HBB.out.trans hwt)
        clear hK K
        (try simp only [Act.put, List.setIfInBounds_toArray, List.set_cons_zero, List.set_cons_succ])
        clear hq5
        replace Vp := Lib.hid (Vp.out.wrote hwt)
        replace Vq := Lib.hid (Vq.out.wrote hwt)
        replace Vr := Lib.hid (Vr.out.wrote hwt)
        replace HBB := Lib.hid (HBB.out.trans hwt)
        replace HWR := Lib.hid hwr
        clear hwr hwt
        refine wpAnyH_ready (rs := [16]) (by kernel_rfl) (by simp) ?_
        refine AllReadyH.cons (o := ?_) ?_ (fun K hK => ?_) AllReadyH.nil
        rotate_left 1
        · (simp only [List.getElem?_toArray, List.getElem?_cons_succ, List.getElem?_cons_zero]; first | done | rfl)
        go_simp
        go_at_call 14
        refine (wfilter_any b _ sc c0 cc cs _ w0 HWR.out HCL.out (HBL.out _ (HWT0.out.trans HBB.out)) hle HNUM.out (by simp [encText_len]; omega) hlm).mono ?_
        rintro e D96 ⟨rfl, hwr, hwt⟩
        first | (refine hK.out _ _ ?_ (fun hq7 => ?_)) | (go_wp2_with fail; refine hK.out _ _ ?_ (fun hq7 => ?_))
        · exact HSALL.out _ (HBB.out.trans hwt)
        clear hK K
        (try simp only [Act.put, List.setIfInBounds_toArray, List.set_cons_zero, List.set_cons_succ])
        clear hq6
        replace Vp := Lib.hid (Vp.out.wrote hwt)
        replace Vq := Lib.hid (Vq.out.wrote hwt)
        replace Vr := Lib.hid (Vr.out.wrote hwt)
        replace HBB := Lib.hid (HBB.out.trans hwt)
        replace HWR := Lib.hid hwr
        clear hwr hwt
        refine wpAnyH_ready (rs := [19]) (by kernel_rfl) (by simp) ?_
        refine AllReadyH.cons (o := ?_) ?_ (fun K hK => ?_) AllReadyH.nil
        rotate_left 1
        · (simp only [List.getElem?_toArray, List.getElem?_cons_succ, List.getElem?_cons_zero]; first | done | rfl)
        go_simp
        go_at_call 31
        refine (wtext_any b _ nm _ HWR.out (by simp [encText_len]; omega)).mono ?_
        rintro e D97 ⟨rfl, hwr, hwt⟩
        first | (refine hK.out _ _ ?_ (fun hq8 => ?_)) | (go_wp2_with fail; refine hK.out _ _ ?_ (fun hq8 => ?_))
        · exact HSALL.out _ (HBB.out.trans hwt)
        clear hK K
        (try simp only [Act.put, List.setIfInBounds_toArray, List.set_cons_zero, List.set_cons_succ])
        clear hq7
        replace Vp := Lib.hid (Vp.out.wrote hwt)
        replace Vq := Lib.hid (Vq.out.wrote hwt)
        replace Vr := Lib.hid (Vr.out.wrote hwt)
        replace HBB := Lib.hid (HBB.out.trans hwt)
        replace HWR := Lib.hid hwr
        clear hwr hwt
        refine wpAnyH_ready (rs := [23]) (by kernel_rfl) (by simp) ?_
        refine AllReadyH.cons (o := ?_) ?_ (fun K hK => ?_) AllReadyH.nil
        rotate_left 1
        · (simp only [List.getElem?_toArray, List.getElem?_cons_succ, List.getElem?_cons_zero]; first | done | rfl)
        go_simp
        go_at_call 29
        refine (wbyte_va HWR.out Vr.out (by simp [encText_len]; omega)).mono ?_
        rintro e D98 ⟨rfl, hwr, hwt⟩
        first | (refine hK.out _ _ ?_ (fun hq9 => ?_)) | (go_wp2_with fail; refine hK.out _ _ ?_ (fun hq9 => ?_))
        · exact HSALL.out _ (HBB.out.trans hwt)
        clear hK K
        (try simp only [Act.put, List.setIfInBounds_toArray, List.set_cons_zero, List.set_cons_succ])
        clear hq8
        replace Vp := Lib.hid (Vp.out.wrote hwt)
        replace Vq := Lib.hid (Vq.out.wrote hwt)
        replace Vr := Lib.hid (Vr.out.wrote hwt)
        replace HBB := Lib.hid (HBB.out.trans hwt)
        replace HWR := Lib.hid hwr
        clear hwr hwt
        refine wpAnyH_done (by kernel_rfl) ?_ _
        go_wp2_with fail
        first | go_end0 | refine bodyPost_ret (results_none rfl _ _ _) rfl ?_
        exact ⟨rfl, by rw [HE.out]; simpa only [List.append_assoc, List.map_cons, List.map_nil] using HWR.out, HWT0.out.trans HBB.out⟩
    · skip
      go_simp
      refine hK.out _ _ ?_ (fun hq2 => ?_)
      · exact HSALL.out _ (HBB.out.trans (wrote_below HWR.out.lt (balloc _ _)))
      clear hK K
      (try simp only [Act.put, List.setIfInBounds_toArray, List.set_cons_zero, List.set_cons_succ])
      clear hq1
      generalize hD : World.alloc D1 _ = D99 at hq2 ⊢
      have hb : Below D1.heap.size D1 D99 := by rw [← hD]; exact balloc _ _
      have Vr := Lib.hid (va_one pl 3 HWR.out); rw [hD] at Vr
      clear hD
      have ht := wrote_below HWR.out.lt hb
      replace Vp := Lib.hid (Vp.out.wrote ht)
      replace HBB := Lib.hid (HBB.out.trans ht)
      replace HWR := Lib.hid (HWR.out.below hb)
      clear hb ht
      generalize D1.heap.size = r at *
      refine wpAnyH_ready (rs := [6, 12]) (by kernel_rfl) (by simp) ?_
      refine AllReadyH.cons (o := ?_) ?_ (fun K hK => ?_) ?_
      rotate_left 1
      · (simp only [List.getElem?_toArray, List.getElem?_cons_succ, List.getElem?_cons_zero]; first | done | rfl)
      rotate_left 1
      refine AllReadyH.cons (o := ?_) ?_ (fun K hK => ?_) AllReadyH.nil
      rotate_left 1
      · (simp only [List.getElem?_toArray, List.getElem?_cons_succ, List.getElem?_cons_zero]; first | done | rfl)
      rotate_left 1
      · skip
        go_simp
        go_at_call 29
        refine (wbyte_va HWR.out Vp.out (by simp; omega)).mono ?_
        rintro e D100 ⟨rfl, hwr, hwt⟩
        first | (refine hK.out _ _ ?_ (fun hq3 => ?_)) | (go_wp2_with fail; refine hK.out _ _ ?_ (fun hq3 => ?_))
        · exact HSALL.out _ (HBB.out.trans hwt)
        clear hK K
        (try simp only [Act.put, List.setIfInBounds_toArray, List.set_cons_zero, List.set_cons_succ])
        clear hq2
        replace Vp := Lib.hid (Vp.out.wrote hwt)
        replace Vr := Lib.hid (Vr.out.wrote hwt)
        replace HBB := Lib.hid (HBB.out.trans hwt)
        replace HWR := Lib.hid hwr
        clear hwr hwt
        refine wpAnyH_ready (rs := [9, 12]) (by kernel_rfl) (by simp) ?_
        refine AllReadyH.cons (o := ?_) ?_ (fun K hK => ?_) ?_
        rotate_left 1
        · (simp only [List.getElem?_toArray, List.getElem?_cons_succ, List.getElem?_cons_zero]; first | done | rfl)
        rotate_left 1
        refine AllReadyH.cons (o := ?_) ?_ (fun K hK => ?_) AllReadyH.nil
        rotate_left 1
        · (simp only [List.getElem?_toArray, List.getElem?_cons_succ, List.getElem?_cons_zero]; first | done | rfl)
        rotate_left 1
        · skip
          go_simp
          go_at_call 31
          refine (wtext_any b _ who _ HWR.out (by simp; omega)).mono ?_
          rintro e D101 ⟨rfl, hwr, hwt⟩
          first | (refine hK.out _ _ ?_ (fun hq4 => ?_)) | (go_wp2_with fail; refine hK.out _ _ ?_ (fun hq4 => ?_))
          · exact HSALL.out _ (HBB.out.trans hwt)
          clear hK K
          (try simp only [Act.put, List.setIfInBounds_toArray, List.set_cons_zero, List.set_cons_succ])
          clear hq3
          replace Vp := Lib.hid (Vp.out.wrote hwt)
          replace Vr := Lib.hid (Vr.out.wrote hwt)
          replace HBB := Lib.hid (HBB.out.trans hwt)
          replace HWR := Lib.hid hwr
          clear hwr hwt
          refine wpAnyH_ready (rs := [12]) (by kernel_rfl) (by simp) ?_
          refine AllReadyH.cons (o := ?_) ?_ (fun K hK => ?_) AllReadyH.nil
          rotate_left 1
          · (simp only [List.getElem?_toArray, List.getElem?_cons_succ, List.getElem?_cons_zero]; first | done | rfl)
          go_simp
          refine hK.out _ _ ?_ (fun hq5 => ?_)
          · exact HSALL.out _ (HBB.out.trans (wrote_below HWR.out.lt (balloc _ _)))
          clear hK K
          (try simp only [Act.put, List.setIfInBounds_toArray, List.set_cons_zero, List.set_cons_succ])
          clear hq4
          generalize hD : World.alloc D101 _ = D102 at hq5 ⊢
          have hb : Below D101.heap.size D101 D102 := by rw [← hD]; exact balloc _ _
          have Vq := Lib.hid (va_one br 3 HWR.out); rw [hD] at Vq
          clear hD
          have ht := wrote_below HWR.out.lt hb
          replace Vp := Lib.hid (Vp.out.wrote ht)
          replace Vr := Lib.hid (Vr.out.wrote ht)
          replace HBB := Lib.hid (HBB.out.trans ht)
          replace HWR := Lib.hid (HWR.out.below hb)
          clear hb ht
          generalize D101.heap.size = q at *
          refine wpAnyH_ready (rs := [13]) (by kernel_rfl) (by simp) ?_
          refine AllReadyH.cons (o := ?_) ?_ (fun K hK => ?_) AllReadyH.nil
          rotate_left 1
          · (simp only [List.getElem?_toArray, List.getElem?_cons_succ, List.getElem?_cons_zero]; first | done | rfl)
          go_simp
          go_at_call 29
          refine (wbyte_va HWR.out Vq.out (by simp [encText_len]; omega)).mono ?_
          rintro e D103 ⟨rfl, hwr, hwt⟩
          first | (refine hK.out _ _ ?_ (fun hq6 => ?_)) | (go_wp2_with fail; refine hK.out _ _ ?_ (fun hq6 => ?_))
          · exact HSALL.out _ (HBB.out.trans hwt)
          clear hK K
          (try simp only [Act.put, List.setIfInBounds_toArray, List.set_cons_zero, List.set_cons_succ])
          clear hq5
          replace Vp := Lib.hid (Vp.out.wrote hwt)
          replace Vr := Lib.hid (Vr.out.wrote hwt)
          replace Vq := Lib.hid (Vq.out.wrote hwt)
          replace HBB := Lib.hid (HBB.out.trans hwt)
          replace HWR := Lib.hid hwr
          clear hwr hwt
          refine wpAnyH_ready (rs := [16]) (by kernel_rfl) (by simp) ?_
          refine AllReadyH.cons (o := ?_) ?_ (fun K hK => ?_) AllReadyH.nil
          rotate_left 1
          · (simp only [List.getElem?_toArray, List.getElem?_cons_succ, List.getElem?_cons_zero]; first | done | rfl)
          go_simp
          go_at_call 14
          refine (wfilter_any b _ sc c0 cc cs _ w0 HWR.out HCL.out (HBL.out _ (HWT0.out.trans HBB.out)) hle HNUM.out (by simp [encText_len]; omega) hlm).mono ?_
          rintro e D104 ⟨rfl, hwr, hwt⟩
          first | (refine hK.out _ _ ?_ (fun hq7 => ?_)) | (go_wp2_with fail; refine hK.out _ _ ?_ (fun hq7 => ?_))
          · exact HSALL.out _ (HBB.out.trans hwt)
          clear hK K
          (try simp only [Act.put, List.setIfInBounds_toArray, List.set_cons_zero, List.set_cons_succ])
          clear hq6
          replace Vp := Lib.hid (Vp.out.wrote hwt)
          replace Vr := Lib.hid (Vr.out.wrote hwt)
          replace Vq := Lib.hid (Vq.out.wrote hwt)
          replace HBB := Lib.hid (HBB.out.trans hwt)
          replace HWR := Lib.hid hwr
          clear hwr hwt
          refine wpAnyH_ready (rs := [19]) (by kernel_rfl) (by simp) ?_
          refine AllReadyH.cons (o := ?_) ?_ (fun K hK => ?_) AllReadyH.nil
          rotate_left 1
          · (simp only [List.getElem?_toArray, List.getElem?_cons_succ, List.getElem?_cons_zero]; first | done | rfl)
          go_simp
          go_at_call 31
          refine (wtext_any b _ nm _ HWR.out (by simp [encText_len]; omega)).mono ?_
          rintro e D105 ⟨rfl, hwr, hwt⟩
          first | (refine hK.out _ _ ?_ (fun hq8 => ?_)) | (go_wp2_with fail; refine hK.out _ _ ?_ (fun hq8 => ?_))
          · exact HSALL.out _ (HBB.out.trans hwt)
          clear hK K
          (try simp only [Act.put, List.setIfInBounds_toArray, List.set_cons_zero, List.set_cons_succ])
          clear hq7
          replace Vp := Lib.hid (Vp.out.wrote hwt)
          replace Vr := Lib.hid (Vr.out.wrote hwt)
          replace Vq := Lib.hid (Vq.out.wrote hwt)
          replace HBB := Lib.hid (HBB.out.trans hwt)
          replace HWR := Lib.hid hwr
          clear hwr hwt
          refine wpAnyH_ready (rs := [23]) (by kernel_rfl) (by simp) ?_
          refine AllReadyH.cons (o := ?_) ?_ (fun K hK => ?_) AllReadyH.nil
          rotate_left 1
          · (simp only [List.getElem?_toArray, List.getElem?_cons_succ, List.getElem?_cons_zero]; first | done | rfl)
          go_simp
          go_at_call 29
          refine (wbyte_va HWR.out Vr.out (by simp [encText_len]; omega)).mono ?_
          rintro e D106 ⟨rfl, hwr, hwt⟩
          first | (refine hK.out _ _ ?_ (fun hq9 => ?_)) | (go_wp2_with fail; refine hK.out _ _ ?_ (fun hq9 => ?_))
          · exact HSALL.out _ (HBB.out.trans hwt)
          clear hK K
          (try simp only [Act.put, List.setIfInBounds_toArray, List.set_cons_zero, List.set_cons_succ])
          clear hq8
          replace Vp := Lib.hid (Vp.out.wrote hwt)
          replace Vr := Lib.hid (Vr.out.wrote hwt)
          replace Vq := Lib.hid (Vq.out.wrote hwt)
          replace HBB := Lib.hid (HBB.out.trans hwt)
          replace HWR := Lib.hid hwr
          clear hwr hwt
          refine wpAnyH_done (by kernel_rfl) ?_ _
          go_wp2_with fail
          first | go_end0 | refine bodyPost_ret (results_none rfl _ _ _) rfl ?_
          exact ⟨rfl, by rw [HE.out]; simpa only [List.append_assoc, List.map_cons, List.map_nil] using HWR.out, HWT0.out.trans HBB.out⟩
        · skip
          go_simp
          refine hK.out _ _ ?_ (fun hq4 => ?_)
          · exact HSALL.out _ (HBB.out.trans (wrote_below HWR.out.lt (balloc _ _)))
          clear hK K
          (try simp only [Act.put, List.setIfInBounds_toArray, List.set_cons_zero, List.set_cons_succ])
          clear hq3
          generalize hD : World.alloc D100 _ = D107 at hq4 ⊢
          have hb : Below D100.heap.size D100 D107 := by rw [← hD]; exact balloc _ _
          have Vq := Lib.hid (va_one br 3 HWR.out); rw [hD] at Vq
          clear hD
          have ht := wrote_below HWR.out.lt hb
          replace Vp := Lib.hid (Vp.out.wrote ht)
          replace Vr := Lib.hid (Vr.out.wrote ht)
          replace HBB := Lib.hid (HBB.out.trans ht)
          replace HWR := Lib.hid (HWR.out.below hb)
          clear hb ht
          generalize D100.heap.size = q at *
          refine wpAnyH_ready (rs := [9]) (by kernel_rfl) (by simp) ?_
          refine AllReadyH.cons (o := ?_) ?_ (fun K hK => ?_) AllReadyH.nil
          rotate_left 1
          · (simp only [List.getElem?_toArray, List.getElem?_cons_succ, List.getElem?_cons_zero]; first | done | rfl)
          go_simp
          go_at_call 31
          refine (wtext_any b _ who _ HWR.out (by simp; omega)).mono ?_
          rintro e D108 ⟨rfl, hwr, hwt⟩
          first | (refine hK.out _ _ ?_ (fun hq5 => ?_)) | (go_wp2_with fail; refine hK.out _ _ ?_ (fun hq5 => ?_))
          · exact HSALL.out _ (HBB.out.trans hwt)
          clear hK K
          (try simp only [Act.put, List.setIfInBounds_toArray, List.set_cons_zero, List.set_cons_succ])
          clear hq4
          replace Vp := Lib.hid (Vp.out.wrote hwt)
          replace Vr := Lib.hid (Vr.out.wrote hwt)
          replace Vq := Lib.hid (Vq.out.wrote hwt)
          replace HBB := Lib.hid (HBB.out.trans hwt)
          replace HWR := Lib.hid hwr
          clear hwr hwt
          refine wpAnyH_ready (rs := [13]) (by kernel_rfl) (by simp) ?_
          refine AllReadyH.cons (o := ?_) ?_ (fun K hK => ?_) AllReadyH.nil
          rotate_left 1
          · (simp only [List.getElem?_toArray, List.getElem?_cons_succ, List.getElem?_cons_zero]; first | done | rfl)
          go_simp
          go_at_call 29
          refine (wbyte_va HWR.out Vq.out (by simp [encText_len]; omega)).mono ?_
          rintro e D109 ⟨rfl, hwr, hwt⟩
          first | (refine hK.out _ _ ?_ (fun hq6 => ?_)) | (go_wp2_with fail; refine hK.out _ _ ?_ (fun hq6 => ?_))
          · exact HSALL.out _ (HBB.out.trans hwt)
          clear hK K
          (try simp only [Act.put, List.setIfInBounds_toArray, List.set_cons_zero, List.set_cons_succ])
          clear hq5
          replace Vp := Lib.hid (Vp.out.wrote hwt)
          replace Vr := Lib.hid (Vr.out.wrote hwt)
          replace Vq := Lib.hid (Vq.out.wrote hwt)
          replace HBB := Lib.hid (HBB.out.trans hwt)
          replace HWR := Lib.hid hwr
          clear hwr hwt
          refine wpAnyH_ready (rs := [16]) (by kernel_rfl) (by simp) ?_
          refine AllReadyH.cons (o := ?_) ?_ (fun K hK => ?_) AllReadyH.nil
          rotate_left 1
          · (simp only [List.getElem?_toArray, List.getElem?_cons_succ, List.getElem?_cons_zero]; first | done | rfl)
          go_simp
          go_at_call 14
          refine (wfilter_any b _ sc c0 cc cs _ w0 HWR.out HCL.out (HBL.out _ (HWT0.out.trans HBB.out)) hle HNUM.out (by simp [encText_len]; omega) hlm).mono ?_
          rintro e D110 ⟨rfl, hwr, hwt⟩
          first | (refine hK.out _ _ ?_ (fun hq7 => ?_)) | (go_wp2_with fail; refine hK.out _ _ ?_ (fun hq7 => ?_))
          · exact HSALL.out _ (HBB.out.trans hwt)
          clear hK K
          (try simp only [Act.put, List.setIfInBounds_toArray, List.set_cons_zero, List.set_cons_succ])
          clear hq6
          replace Vp := Lib.hid (Vp.out.wrote hwt)
          replace Vr := Lib.hid (Vr.out.wrote hwt)
          replace Vq := Lib.hid (Vq.out.wrote hwt)
          replace HBB := Lib.hid (HBB.out.trans hwt)
          replace HWR := Lib.hid hwr
          clear hwr hwt
          refine wpAnyH_ready (rs := [19]) (by kernel_rfl) (by simp) ?_
          refine AllReadyH.cons (o := ?_) ?_ (fun K hK => ?_) AllReadyH.nil
          rotate_left 1
          · (simp only [List.getElem?_toArray, List.getElem?_cons_succ, List.getElem?_cons_zero]; first | done | rfl)
          go_simp
          go_at_call 31
          refine (wtext_any b _ nm _ HWR.out (by simp [encText_len]; omega)).mono ?_
          rintro e D111 ⟨rfl, hwr, hwt⟩
          first | (refine hK.out _ _ ?_ (fun hq8 => ?_)) | (go_wp2_with fail; refine hK.out _ _ ?_ (fun hq8 => ?_))
          · exact HSALL.out _ (HBB.out.trans hwt)
          clear hK K
          (try simp only [Act.put, List.setIfInBounds_toArray, List.set_cons_zero, List.set_cons_succ])
          clear hq7
          replace Vp := Lib.hid (Vp.out.wrote hwt)
          replace Vr := Lib.hid (Vr.out.wrote hwt)
          replace Vq := Lib.hid (Vq.out.wrote hwt)
          replace HBB := Lib.hid (HBB.out.trans hwt)
          replace HWR := Lib.hid hwr
          clear hwr hwt
          refine wpAnyH_ready (rs := [23]) (by kernel_rfl) (by simp) ?_
          refine AllReadyH.cons (o := ?_) ?_ (fun K hK => ?_) AllReadyH.nil
          rotate_left 1
          · (simp only [List.getElem?_toArray, List.getElem?_cons_succ, List.getElem?_cons_zero]; first | done | rfl)
          go_simp
          go_at_call 29
          refine (wbyte_va HWR.out Vr.out (by simp [encText_len]; omega)).mono ?_
          rintro e D112 ⟨rfl, hwr, hwt⟩
          first | (refine hK.out _ _ ?_ (fun hq9 => ?_)) | (go_wp2_with fail; refine hK.out _ _ ?_ (fun hq9 => ?_))
          · exact HSALL.out _ (HBB.out.trans hwt)
          clear hK K
          (try simp only [Act.put, List.setIfInBounds_toArray, List.set_cons_zero, List.set_cons_succ])
          clear hq8
          replace Vp := Lib.hid (Vp.out.wrote hwt)
          replace Vr := Lib.hid (Vr.out.wrote hwt)
          replace Vq := Lib.hid (Vq.out.wrote hwt)
          replace HBB := Lib.hid (HBB.out.trans hwt)
          replace HWR := Lib.hid hwr
          clear hwr hwt
          refine wpAnyH_done (by kernel_rfl) ?_ _
          go_wp2_with fail
          first | go_end0 | refine bodyPost_ret (results_none rfl _ _ _) rfl ?_
          exact ⟨rfl, by rw [HE.out]; simpa only [List.append_assoc, List.map_cons, List.map_nil] using HWR.out, HWT0.out.trans HBB.out⟩
      · skip
        go_simp
        refine hK.out _ _ ?_ (fun hq3 => ?_)
        · exact HSALL.out _ (HBB.out.trans (wrote_below HWR.out.lt (balloc _ _)))
        clear hK K
        (try simp only [Act.put, List.setIfInBounds_toArray, List.set_cons_zero, List.set_cons_succ])
        clear hq2
        generalize hD : World.alloc D99 _ = D113 at hq3 ⊢
        have hb : Below D99.heap.size D99 D113 := by rw [← hD]; exact balloc _ _
        have Vq := Lib.hid (va_one br 3 HWR.out); rw [hD] at Vq
        clear hD
        have ht := wrote_below HWR.out.lt hb
        replace Vp := Lib.hid (Vp.out.wrote ht)
        replace Vr := Lib.hid (Vr.out.wrote ht)
        replace HBB := Lib.hid (HBB.out.trans ht)
        replace HWR := Lib.hid (HWR.out.below hb)
        clear hb ht
        generalize D99.heap.size = q at *
        refine wpAnyH_ready (rs := [6]) (by kernel_rfl) (by simp) ?_
        refine AllReadyH.cons (o := ?_) ?_ (fun K hK => ?_) AllReadyH.nil
        rotate_left 1
        · (simp only [List.getElem?_toArray, List.getElem?_cons_succ, List.getElem?_cons_zero]; first | done | rfl)
        go_simp
        go_at_call 29
        refine (wbyte_va HWR.out Vp.out (by simp; omega)).mono ?_
        rintro e D114 ⟨rfl, hwr, hwt⟩
        first | (refine hK.out _ _ ?_ (fun hq4 => ?_)) | (go_wp2_with fail; refine hK.out _ _ ?_ (fun hq4 => ?_))
        · exact HSALL.out _ (HBB.out.trans hwt)
        clear hK K
        (try simp only [Act.put, List.setIfInBounds_toArray, List.set_cons_zero, List.set_cons_succ])
        clear hq3
        replace Vp := Lib.hid (Vp.out.wrote hwt)
        replace Vr := Lib.hid (Vr.out.wrote hwt)
        replace Vq := Lib.hid (Vq.out.wrote hwt)
        replace HBB := Lib.hid (HBB.out.trans hwt)
        replace HWR := Lib.hid hwr
        clear hwr hwt
        refine wpAnyH_ready (rs := [9]) (by kernel_rfl) (by simp) ?_
        refine AllReadyH.cons (o := ?_) ?_ (fun K hK => ?_) AllReadyH.nil
        rotate_left 1
        · (simp only [List.getElem?_toArray, List.getElem?_cons_succ, List.getElem?_cons_zero]; first | done | rfl)
        go_simp
        go_at_call 31
        refine (wtext_any b _ who _ HWR.out (by simp; omega)).mono ?_
        rintro e D115 ⟨rfl, hwr, hwt⟩
        first | (refine hK.out _ _ ?_ (fun hq5 => ?_)) | (go_wp2_with fail; refine hK.out _ _ ?_ (fun hq5 => ?_))
        · exact HSALL.out _ (HBB.out.trans hwt)
        clear hK K
        (try simp only [Act.put, List.setIfInBounds_toArray, List.set_cons_zero, List.set_cons_succ])
        clear hq4
        replace Vp := Lib.hid (Vp.out.wrote hwt)
        replace Vr := Lib.hid (Vr.out.wrote hwt)
        replace Vq := Lib.hid (Vq.out.wrote hwt)
        replace HBB := Lib.hid (HBB.out.trans hwt)
        replace HWR := Lib.hid hwr
        clear hwr hwt
        refine wpAnyH_ready (rs := [13]) (by kernel_rfl) (by simp) ?_
        refine AllReadyH.cons (o := ?_) ?_ (fun K hK => ?_) AllReadyH.nil
        rotate_left 1
        · (simp only [List.getElem?_toArray, List.getElem?_cons_succ, List.getElem?_cons_zero]; first | done | rfl)
        go_simp
        go_at_call 29
        refine (wbyte_va HWR.out Vq.out (by simp [encText_len]; omega)).mono ?_
        rintro e D116 ⟨rfl, hwr, hwt⟩
        first | (refine hK.out _ _ ?_ (fun hq6 => ?_)) | (go_wp2_with fail; refine hK.out _ _ ?_ (fun hq6 => ?_))
        · exact HSALL.out _ (HBB.out.trans hwt)
        clear hK K
        (try simp only [Act.put, List.setIfInBounds_toArray, List.set_cons_zero, List.set_cons_succ])
        clear hq5
        replace Vp := Lib.hid (Vp.out.wrote hwt)
        replace Vr := Lib.hid (Vr.out.wrote hwt)
        replace Vq := Lib.hid (Vq.out.wrote hwt)
        replace HBB := Lib.hid (HBB.out.trans hwt)
        replace HWR := Lib.hid hwr
        clear hwr hwt
        refine wpAnyH_ready (rs := [16]) (by kernel_rfl) (by simp) ?_
        refine AllReadyH.cons (o := ?_) ?_ (fun K hK => ?_) AllReadyH.nil
        rotate_left 1
        · (simp only [List.getElem?_toArray, List.getElem?_cons_succ, List.getElem?_cons_zero]; first | done | rfl)
        go_simp
        go_at_call 14
        refine (wfilter_any b _ sc c0 cc cs _ w0 HWR.out HCL.out (HBL.out _ (HWT0.out.trans HBB.out)) hle HNUM.out (by simp [encText_len]; omega) hlm).mono ?_
        rintro e D117 ⟨rfl, hwr, hwt⟩
        first | (refine hK.out _ _ ?_ (fun hq7 => ?_)) | (go_wp2_with fail; refine hK.out _ _ ?_ (fun hq7 => ?_))
        · exact HSALL.out _ (HBB.out.trans hwt)
        clear hK K
        (try simp only [Act.put, List.setIfInBounds_toArray, List.set_cons_zero, List.set_cons_succ])
        clear hq6
        replace Vp := Lib.hid (Vp.out.wrote hwt)
        replace Vr := Lib.hid (Vr.out.wrote hwt)
        replace Vq := Lib.hid (Vq.out.wrote hwt)
        replace HBB := Lib.hid (HBB.out.trans hwt)
        replace HWR := Lib.hid hwr
        clear hwr hwt
        refine wpAnyH_ready (rs := [19]) (by kernel_rfl) (by simp) ?_
        refine AllReadyH.cons (o := ?_) ?_ (fun K hK => ?_) AllReadyH.nil
        rotate_left 1
        · (simp only [List.getElem?_toArray, List.getElem?_cons_succ, List.getElem?_cons_zero]; first | done | rfl)
        go_simp
        go_at_call 31
        refine (wtext_any b _ nm _ HWR.out (by simp [encText_len]; omega)).mono ?_
        rintro e D118 ⟨rfl, hwr, hwt⟩
        first | (refine hK.out _ _ ?_ (fun hq8 => ?_)) | (go_wp2_with fail; refine hK.out _ _ ?_ (fun hq8 => ?_))
        · exact HSALL.out _ (HBB.out.trans hwt)
        clear hK K
        (try simp only [Act.put, List.setIfInBounds_toArray, List.set_cons_zero, List.set_cons_succ])
        clear hq7
        replace Vp := Lib.hid (Vp.out.wrote hwt)
        replace Vr := Lib.hid (Vr.out.wrote hwt)
        replace Vq := Lib.hid (Vq.out.wrote hwt)
        replace HBB := Lib.hid (HBB.out.trans hwt)
        replace HWR := Lib.hid hwr
        clear hwr hwt
        refine wpAnyH_ready (rs := [23]) (by kernel_rfl) (by simp) ?_
        refine AllReadyH.cons (o := ?_) ?_ (fun K hK => ?_) AllReadyH.nil
        rotate_left 1
        · (simp only [List.getElem?_toArray, List.getElem?_cons_succ, List.getElem?_cons_zero]; first | done | rfl)
        go_simp
        go_at_call 29
        refine (wbyte_va HWR.out Vr.out (by simp [encText_len]; omega)).mono ?_
        rintro e D119 ⟨rfl, hwr, hwt⟩
        first | (refine hK.out _ _ ?_ (fun hq9 => ?_)) | (go_wp2_with fail; refine hK.out _ _ ?_ (fun hq9 => ?_))
        · exact HSALL.out _ (HBB.out.trans hwt)
        clear hK K
        (try simp only [Act.put, List.setIfInBounds_toArray, List.set_cons_zero, List.set_cons_succ])
        clear hq8
        replace Vp := Lib.hid (Vp.out.wrote hwt)
        replace Vr := Lib.hid (Vr.out.wrote hwt)
        replace Vq := Lib.hid (Vq.out.wrote hwt)
        replace HBB := Lib.hid (HBB.out.trans hwt)
        replace HWR := Lib.hid hwr
        clear hwr hwt
        refine wpAnyH_done (by kernel_rfl) ?_ _
        go_wp2_with fail
        first | go_end0 | refine bodyPost_ret (results_none rfl _ _ _) rfl ?_
        exact ⟨rfl, by rw [HE.out]; simpa only [List.append_assoc, List.map_cons, List.map_nil] using HWR.out, HWT0.out.trans HBB.out⟩
  · skip
    go_simp
    refine hK.out _ _ ?_ (fun hq1 => ?_)
    · exact HSALL.out _ (HBB.out.trans (wrote_below HWR.out.lt (balloc _ _)))
    clear hK K
    (try simp only [Act.put, List.setIfInBounds_toArray, List.set_cons_zero, List.set_cons_succ])
    clear hq0
    generalize hD : World.alloc D0 _ = D120 at hq1 ⊢
    have hb : Below D0.heap.size D0 D120 := by rw [← hD]; exact balloc _ _
    have Vq := Lib.hid (va_one br 3 HWR.out); rw [hD] at Vq
    clear hD
    have ht := wrote_below HWR.out.lt hb
    replace HBB := Lib.hid (HBB.out.trans ht)
    replace HWR := Lib.hid (HWR.out.below hb)
    clear hb ht
    generalize D0.heap.size = q at *
    refine wpAnyH_ready (rs := [5, 22]) (by kernel_rfl) (by simp) ?_
    refine AllReadyH.cons (o := ?_) ?_ (fun K hK => ?_) ?_
    rotate_left 1
    · (simp only [List.getElem?_toArray, List.getElem?_cons_succ, List.getElem?_cons_zero]; first | done | rfl)
    rotate_left 1
    refine AllReadyH.cons (o := ?_) ?_ (fun K hK => ?_) AllReadyH.nil
    rotate_left 1
    · (simp only [List.getElem?_toArray, List.getElem?_cons_succ, List.getElem?_cons_zero]; first | done | rfl)
    rotate_left 1
    · skip
      go_simp
      refine hK.out _ _ ?_ (fun hq2 => ?_)
      · exact HSALL.out _ (HBB.out.trans (wrote_below HWR.out.lt (balloc _ _)))
      clear hK K
      (try simp only [Act.put, List.setIfInBounds_toArray, List.set_cons_zero, List.set_cons_succ])
      clear hq1
      generalize hD : World.alloc D120 _ = D121 at hq2 ⊢
      have hb : Below D120.heap.size D120 D121 := by rw [← hD]; exact balloc _ _
      have Vp := Lib.hid (va_two kd tn 3 HWR.out); rw [hD] at Vp
      clear hD
      have ht := wrote_below HWR.out.lt hb
      replace Vq := Lib.hid (Vq.out.wrote ht)
      replace HBB := Lib.hid (HBB.out.trans ht)
      replace HWR := Lib.hid (HWR.out.below hb)
      clear hb ht
      generalize D120.heap.size = p at *
      refine wpAnyH_ready (rs := [6, 22]) (by kernel_rfl) (by simp) ?_
      refine AllReadyH.cons (o := ?_) ?_ (fun K hK => ?_) ?_
      rotate_left 1
      · (simp only [List.getElem?_toArray, List.getElem?_cons_succ, List.getElem?_cons_zero]; first | done | rfl)
      rotate_left 1
      refine AllReadyH.cons (o := ?_) ?_ (fun K hK => ?_) AllReadyH.nil
      rotate_left 1
      · (simp only [List.getElem?_toArray, List.getElem?_cons_succ, List.getElem?_cons_zero]; first | done | rfl)
      rotate_left 1
      · skip
        go_simp
        go_at_call 29
        refine (wbyte_va HWR.out Vp.out (by simp; omega)).mono ?_
        rintro e D122 ⟨rfl, hwr, hwt⟩
        first | (refine hK.out _ _ ?_ (fun hq3 => ?_)) | (go_wp2_with fail; refine hK.out _ _ ?_ (fun hq3 => ?_))
        · exact HSALL.out _ (HBB.out.trans hwt)
        clear hK K
        (try simp only [Act.put, List.setIfInBounds_toArray, List.set_cons_zero, List.set_cons_succ])
        clear hq2
        replace Vq := Lib.hid (Vq.out.wrote hwt)
        replace Vp := Lib.hid (Vp.out.wrote hwt)
        replace HBB := Lib.hid (HBB.out.trans hwt)
        replace HWR := Lib.hid hwr
        clear hwr hwt
        refine wpAnyH_ready (rs := [9, 22]) (by kernel_rfl) (by simp) ?_
        refine AllReadyH.cons (o := ?_) ?_ (fun K hK => ?_) ?_
        rotate_left 1
        · (simp only [List.getElem?_toArray, List.getElem?_cons_succ, List.getElem?_cons_zero]; first | done | rfl)
        rotate_left 1
        refine AllReadyH.cons (o := ?_) ?_ (fun K hK => ?_) AllReadyH.nil
        rotate_left 1
        · (simp only [List.getElem?_toArray, List.getElem?_cons_succ, List.getElem?_cons_zero]; first | done | rfl)
        rotate_left 1
        · skip
          go_simp
          go_at_call 31
          refine (wtext_any b _ who _ HWR.out (by simp; omega)).mono ?_
          rintro e D123 ⟨rfl, hwr, hwt⟩
          first | (refine hK.out _ _ ?_ (fun hq4 => ?_)) | (go_wp2_with fail; refine hK.out _ _ ?_ (fun hq4 => ?_))
          · exact HSALL.out _ (HBB.out.trans hwt)
          clear hK K
          (try simp only [Act.put, List.setIfInBounds_toArray, List.set_cons_zero, List.set_cons_succ])
          clear hq3
          replace Vq := Lib.hid (Vq.out.wrote hwt)
          replace Vp := Lib.hid (Vp.out.wrote hwt)
          replace HBB := Lib.hid (HBB.out.trans hwt)
          replace HWR := Lib.hid hwr
          clear hwr hwt
          refine wpAnyH_ready (rs := [13, 22]) (by kernel_rfl) (by simp) ?_
          refine AllReadyH.cons (o := ?_) ?_ (fun K hK => ?_) ?_
          rotate_left 1
          · (simp only [List.getElem?_toArray, List.getElem?_cons_succ, List.getElem?_cons_zero]; first | done | rfl)
          rotate_left 1
          refine AllReadyH.cons (o := ?_) ?_ (fun K hK => ?_) AllReadyH.nil
          rotate_left 1
          · (simp only [List.getElem?_toArray, List.getElem?_cons_succ, List.getElem?_cons_zero]; first | done | rfl)
          rotate_left 1
          · skip
            go_simp
            go_at_call 29
            refine (wbyte_va HWR.out Vq.out (by simp [encText_len]; omega)).mono ?_
            rintro e D124 ⟨rfl, hwr, hwt⟩
            first | (refine hK.out _ _ ?_ (fun hq5 => ?_)) | (go_wp2_with fail; refine hK.out _ _ ?_ (fun hq5 => ?_))
            · exact HSALL.out _ (HBB.out.trans hwt)
            clear hK K
            (try simp only [Act.put, List.setIfInBounds_toArray, List.set_cons_zero, List.set_cons_succ])
            clear hq4
            replace Vq := Lib.hid (Vq.out.wrote hwt)
            replace Vp := Lib.hid (Vp.out.wrote hwt)
            replace HBB := Lib.hid (HBB.out.trans hwt)
            replace HWR := Lib.hid hwr
            clear hwr hwt
            refine wpAnyH_ready (rs := [16, 22]) (by kernel_rfl) (by simp) ?_
            refine AllReadyH.cons (o := ?_) ?_ (fun K hK => ?_) ?_
            rotate_left 1
            · (simp only [List.getElem?_toArray, List.getElem?_cons_succ, List.getElem?_cons_zero]; first | done | rfl)
            rotate_left 1
            refine AllReadyH.cons (o := ?_) ?_ (fun K hK => ?_) AllReadyH.nil
            rotate_left 1
            · (simp only [List.getElem?_toArray, List.getElem?_cons_succ, List.getElem?_cons_zero]; first | done | rfl)
            rotate_left 1
            · skip
              go_simp
              go_at_call 14
              refine (wfilter_any b _ sc c0 cc cs _ w0 HWR.out HCL.out (HBL.out _ (HWT0.out.trans HBB.out)) hle HNUM.out (by simp [encText_len]; omega) hlm).mono ?_
              rintro e D125 ⟨rfl, hwr, hwt⟩
              first | (refine hK.out _ _ ?_ (fun hq6 => ?_)) | (go_wp2_with fail; refine hK.out _ _ ?_ (fun hq6 => ?_))
              · exact HSALL.out _ (HBB.out.trans hwt)
              clear hK K
              (try simp only [Act.put, List.setIfInBounds_toArray, List.set_cons_zero, List.set_cons_succ])
              clear hq5
              replace Vq := Lib.hid (Vq.out.wrote hwt)
              replace Vp := Lib.hid (Vp.out.wrote hwt)
              replace HBB := Lib.hid (HBB.out.trans hwt)
              replace HWR := Lib.hid hwr
              clear hwr hwt
              refine wpAnyH_ready (rs := [19, 22]) (by kernel_rfl) (by simp) ?_
              refine AllReadyH.cons (o := ?_) ?_ (fun K hK => ?_) ?_
              rotate_left 1
              · (simp only [List.getElem?_toArray, List.getElem?_cons_succ, List.getElem?_cons_zero]; first | done | rfl)
              rotate_left 1
              refine AllReadyH.cons (o := ?_) ?_ (fun K hK => ?_) AllReadyH.nil
              rotate_left 1
              · (simp only [List.getElem?_toArray, List.getElem?_cons_succ, List.getElem?_cons_zero]; first | done | rfl)
              rotate_left 1
              · skip
                go_simp
                go_at_call 31
                refine (wtext_any b _ nm _ HWR.out (by simp [encText_len]; omega)).mono ?_
                rintro e D126 ⟨rfl, hwr, hwt⟩
                first | (refine hK.out _ _ ?_ (fun hq7 => ?_)) | (go_wp2_with fail; refine hK.out _ _ ?_ (fun hq7 => ?_))
                · exact HSALL.out _ (HBB.out.trans hwt)
                clear hK K
                (try simp only [Act.put, List.setIfInBounds_toArray, List.set_cons_zero, List.set_cons_succ])
                clear hq6
                replace Vq := Lib.hid (Vq.out.wrote hwt)
                replace Vp := Lib.hid (Vp.out.wrote hwt)
                replace HBB := Lib.hid (HBB.out.trans hwt)
                replace HWR := Lib.hid hwr
                clear hwr hwt
                refine wpAnyH_ready (rs := [22]) (by kernel_rfl) (by simp) ?_
                refine AllReadyH.cons (o := ?_) ?_ (fun K hK => ?_) AllReadyH.nil
                rotate_left 1
                · (simp only [List.getElem?_toArray, List.getElem?_cons_succ, List.getElem?_cons_zero]; first | done | rfl)
                go_simp
                refine hK.out _ _ ?_ (fun hq8 => ?_)
                · exact HSALL.out _ (HBB.out.trans (wrote_below HWR.out.lt (balloc _ _)))
                clear hK K
                (try simp only [Act.put, List.setIfInBounds_toArray, List.set_cons_zero, List.set_cons_succ])
                clear hq7
                generalize hD : World.alloc D126 _ = D127 at hq8 ⊢
                have hb : Below D126.heap.size D126 D127 := by rw [← hD]; exact balloc _ _
                have Vr := Lib.hid (va_one pl 3 HWR.out); rw [hD] at Vr
                clear hD
                have ht := wrote_below HWR.out.lt hb
                replace Vq := Lib.hid (Vq.out.wrote ht)
                replace Vp := Lib.hid (Vp.out.wrote ht)
                replace HBB := Lib.hid (HBB.out.trans ht)
                replace HWR := Lib.hid (HWR.out.below hb)
                clear hb ht
                generalize D126.heap.size = r at *
                refine wpAnyH_ready (rs := [23]) (by kernel_rfl) (by simp) ?_
                refine AllReadyH.cons (o := ?_) ?_ (fun K hK => ?_) AllReadyH.nil
                rotate_left 1
                · (simp only [List.getElem?_toArray, List.getElem?_cons_succ, List.getElem?_cons_zero]; first | done | rfl)
                go_simp
                go_at_call 29
                refine (wbyte_va HWR.out Vr.out (by simp [encText_len]; omega)).mono ?_
                rintro e D128 ⟨rfl, hwr, hwt⟩
                first | (refine hK.out _ _ ?_ (fun hq9 => ?_)) | (go_wp2_with fail; refine hK.out _ _ ?_ (fun hq9 => ?_))
                · exact HSALL.out _ (HBB.out.trans hwt)
                clear hK K
                (try simp only [Act.put, List.setIfInBounds_toArray, List.set_cons_zero, List.set_cons_succ])
                clear hq8
                replace Vq := Lib.hid (Vq.out.wrote hwt)
                replace Vp := Lib.hid (Vp.out.wrote hwt)
                replace Vr := Lib.hid (Vr.out.wrote hwt)
                replace HBB := Lib.hid (HBB.out.trans hwt)
                replace HWR := Lib.hid hwr
                clear hwr hwt
                refine wpAnyH_done (by kernel_rfl) ?_ _
                go_wp2_with fail
                first | go_end0 | refine bodyPost_ret (results_none rfl _ _ _) rfl ?_
                exact ⟨rfl, by rw [HE.out]; simpa only [List.append_assoc, List.map_cons, List.map_nil] using HWR.out, HWT0.out.trans HBB.out⟩
              · skip
                go_simp
                refine hK.out _ _ ?_ (fun hq7 => ?_)
                · exact HSALL.out _ (HBB.out.trans (wrote_below HWR.out.lt (balloc _ _)))
                clear hK K
                (try simp only [Act.put, List.setIfInBounds_toArray, List.set_cons_zero, List.set_cons_succ])
                clear hq6
                generalize hD : World.alloc D125 _ = D129 at hq7 ⊢
                have hb : Below D125.heap.size D125 D129 := by rw [← hD]; exact balloc _ _
                have Vr := Lib.hid (va_one pl 3 HWR.out); rw [hD] at Vr
                clear hD
                have ht := wrote_below HWR.out.lt hb
                replace Vq := Lib.hid (Vq.out.wrote ht)
                replace Vp := Lib.hid (Vp.out.wrote ht)
                replace HBB := Lib.hid (HBB.out.trans ht)
                replace HWR := Lib.hid (HWR.out.below hb)
                clear hb ht
                generalize D125.heap.size = r at *
                refine wpAnyH_ready (rs := [19]) (by kernel_rfl) (by simp) ?_
                refine AllReadyH.cons (o := ?_) ?_ (fun K hK => ?_) AllReadyH.nil
                rotate_left 1
                · (simp only [List.getElem?_toArray, List.getElem?_cons_succ, List.getElem?_cons_zero]; first | done | rfl)
                go_simp
                go_at_call 31
                refine (wtext_any b _ nm _ HWR.out (by simp [encText_len]; omega)).mono ?_
                rintro e D130 ⟨rfl, hwr, hwt⟩
                first | (refine hK.out _ _ ?_ (fun hq8 => ?_)) | (go_wp2_with fail; refine hK.out _ _ ?_ (fun hq8 => ?_))
                · exact HSALL.out _ (HBB.out.trans hwt)
                clear hK K
                (try simp only [Act.put, List.setIfInBounds_toArray, List.set_cons_zero, List.set_cons_succ])
                clear hq7
                replace Vq := Lib.hid (Vq.out.wrote hwt)
                replace Vp := Lib.hid (Vp.out.wrote hwt)
                replace Vr := Lib.hid (Vr.out.wrote hwt)
                replace HBB := Lib.hid (HBB.out.trans hwt)
                replace HWR := Lib.hid hwr
                clear hwr hwt
                refine wpAnyH_ready (rs := [23]) (by kernel_rfl) (by simp) ?_
                refine AllReadyH.cons (o := ?_) ?_ (fun K hK => ?_) AllReadyH.nil
                rotate_left 1
                · (simp only [List.getElem?_toArray, List.getElem?_cons_succ, List.getElem?_cons_zero]; first | done | rfl)
                go_simp
                go_at_call 29
                refine (wbyte_va HWR.out Vr.out (by simp [encText_len]; omega)).mono ?_
                rintro e D131 ⟨rfl, hwr, hwt⟩
                first | (refine hK.out _ _ ?_ (fun hq9 => ?_)) | (go_wp2_with fail; refine hK.out _ _ ?_ (fun hq9 => ?_))
                · exact HSALL.out _ (HBB.out.trans hwt)
                clear hK K
                (try simp only [Act.put, List.setIfInBounds_toArray, List.set_cons_zero, List.set_cons_succ])
                clear hq8
                replace Vq := Lib.hid (Vq.out.wrote hwt)
                replace Vp := Lib.hid (Vp.out.wrote hwt)
                replace Vr := Lib.hid (Vr.out.wrote hwt)
                replace HBB := Lib.hid (HBB.out.trans hwt)
                replace HWR := Lib.hid hwr
                clear hwr hwt
                refine wpAnyH_done (by kernel_rfl) ?_ _
                go_wp2_with fail
                first | go_end0 | refine bodyPost_ret (results_none rfl _ _ _) rfl ?_
                exact ⟨rfl, by rw [HE.out]; simpa only [List.append_assoc, List.map_cons, List.map_nil] using HWR.out, HWT0.out.trans HBB.out⟩
            · skip
              go_simp
              refine hK.out _ _ ?_ (fun hq6 => ?_)
              · exact HSALL.out _ (HBB.out.trans (wrote_below HWR.out.lt (balloc _ _)))
              clear hK K
              (try simp only [Act.put, List.setIfInBounds_toArray, List.set_cons_zero, List.set_cons_succ])
              clear hq5
              generalize hD : World.alloc D124 _ = D132 at hq6 ⊢
              have hb : Below D124.heap.size D124 D132 := by rw [← hD]; exact balloc _ _
              have Vr := Lib.hid (va_one pl 3 HWR.out); rw [hD] at Vr
              clear hD
              have ht := wrote_below HWR.out.lt hb
              replace Vq := Lib.hid (Vq.out.wrote ht)
              replace Vp := Lib.hid (Vp.out.wrote ht)
              replace HBB := Lib.hid (HBB.out.trans ht)
              replace HWR := Lib.hid (HWR.out.below hb)
              clear hb ht
              generalize D124.heap.size = r at *
              refine wpAnyH_ready (rs := [16]) (by kernel_rfl) (by simp) ?_
              refine AllReadyH.cons (o := ?_) ?_ (fun K hK => ?_) AllReadyH.nil
              rotate_left 1
              · (simp only [List.getElem?_toArray, List.getElem?_cons_succ, List.getElem?_cons_zero]; first | done | rfl)
              go_simp
              go_at_call 14
              refine (wfilter_any b _ sc c0 cc cs _ w0 HWR.out HCL.out (HBL.out _ (HWT0.out.trans HBB.out)) hle HNUM.out (by simp [encText_len]; omega) hlm).mono ?_
              rintro e D133 ⟨rfl, hwr, hwt⟩
              first | (refine hK.out _ _ ?_ (fun hq7 => ?_)) | (go_wp2_with fail; refine hK.out _ _ ?_ (fun hq7 => ?_))
              · exact HSALL.out _ (HBB.out.trans hwt)
              clear hK K
              (try simp only [Act.put, List.setIfInBounds_toArray, List.set_cons_zero, List.set_cons_succ])
              clear hq6
              replace Vq := Lib.hid (Vq.out.wrote hwt)
              replace Vp := Lib.hid (Vp.out.wrote hwt)
              replace Vr := Lib.hid (Vr.out.wrote hwt)
              replace HBB := Lib.hid (HBB.out.trans hwt)
              replace HWR := Lib.hid hwr
              clear hwr hwt
              refine wpAnyH_ready (rs := [19]) (by kernel_rfl) (by simp) ?_
              refine AllReadyH.cons (o := ?_) ?_ (fun K hK => ?_) AllReadyH.nil
              rotate_left 1
              · (simp only [List.getElem?_toArray, List.getElem?_cons_succ, List.getElem?_cons_zero]; first | done | rfl)
              go_simp
              go_at_call 31
              refine (wtext_any b _ nm _ HWR.out (by simp [encText_len]; omega)).mono ?_
              rintro e D134 ⟨rfl, hwr, hwt⟩
              first | (refine hK.out _ _ ?_ (fun hq8 => ?_)) | (go_wp2_with fail; refine hK.out _ _ ?_ (fun hq8 => ?_))
              · exact HSALL.out _ (HBB.out.trans hwt)
              clear hK K
              (try simp only [Act.put, List.setIfInBounds_toArray, List.set_cons_zero, List.set_cons_succ])
              clear hq7
              replace Vq := Lib.hid (Vq.out.wrote hwt)
              replace Vp := Lib.hid (Vp.out.wrote hwt)
              replace Vr := Lib.hid (Vr.out.wrote hwt)
              replace HBB := Lib.hid (HBB.out.trans hwt)
              replace HWR := Lib.hid hwr
              clear hwr hwt
              refine wpAnyH_ready (rs := [23]) (by kernel_rfl) (by simp) ?_
              refine AllReadyH.cons (o := ?_) ?_ (fun K hK => ?_) AllReadyH.nil
              rotate_left 1
              · (simp only [List.getElem?_toArray, List.getElem?_cons_succ, List.getElem?_cons_zero]; first | done | rfl)
              go_simp
              go_at_call 29
              refine (wbyte_va HWR.out Vr.out (by simp [encText_len]; omega)).mono ?_
              rintro e D135 ⟨rfl, hwr, hwt⟩
              first | (refine hK.out _ _ ?_ (fun hq9 => ?_)) | (go_wp2_with fail; refine hK.out _ _ ?_ (fun hq9 => ?_))
              · exact HSALL.out _ (HBB.out.trans hwt)
              clear hK K
              (try simp only [Act.put, List.setIfInBounds_toArray, List.set_cons_zero, List.set_cons_succ])
              clear hq8
              replace Vq := Lib.hid (Vq.out.wrote hwt)
              replace Vp := Lib.hid (Vp.out.wrote hwt)
              replace Vr := Lib.hid (Vr.out.wrote hwt)
              replace HBB := Lib.hid (HBB.out.trans hwt)
              replace HWR := Lib.hid hwr
              clear hwr hwt
              refine wpAnyH_done (by kernel_rfl) ?_ _
              go_wp2_with fail
              first | go_end0 | refine bodyPost_ret (results_none rfl _ _ _) rfl ?_
              exact ⟨rfl, by rw [HE.out]; simpa only [List.append_assoc, List.map_cons, List.map_nil] using HWR.out, HWT0.out.trans HBB.out⟩
          · skip
            go_simp
            refine hK.out _ _ ?_ (fun hq5 => ?_)
            · exact HSALL.out _ (HBB.out.trans (wrote_below HWR.out.lt (balloc _ _)))
            clear hK K
            (try simp only [Act.put, List.setIfInBounds_toArray, List.set_cons_zero, List.set_cons_succ])
            clear hq4
            generalize hD : World.alloc D123 _ = D136 at hq5 ⊢
            have hb : Below D123.heap.size D123 D136 := by rw [← hD]; exact balloc _ _
            have Vr := Lib.hid (va_one pl 3 HWR.out); rw [hD] at Vr
            clear hD
            have ht := wrote_below HWR.out.lt hb
            replace Vq := Lib.hid (Vq.out.wrote ht)
            replace Vp := Lib.hid (Vp.out.wrote ht)
            replace HBB := Lib.hid (HBB.out.trans ht)
            replace HWR := Lib.hid (HWR.out.below hb)
            clear hb ht
            generalize D123.heap.size = r at *
            refine wpAnyH_ready (rs := [13]) (by kernel_rfl) (by simp) ?_
            refine AllReadyH.cons (o := ?_) ?_ (fun K hK => ?_) AllReadyH.nil
            rotate_left 1
            · (simp only [List.getElem?_toArray, List.getElem?_cons_succ, List.getElem?_cons_zero]; first | done | rfl)
            go_simp
            go_at_call 29
            refine (wbyte_va HWR.out Vq.out (by simp [encText_len]; omega)).mono ?_
            rintro e D137 ⟨rfl, hwr, hwt⟩
            first | (refine hK.out _ _ ?_ (fun hq6 => ?_)) | (go_wp2_with fail; refine hK.out _ _ ?_ (fun hq6 => ?_))
            · exact HSALL.out _ (HBB.out.trans hwt)
            clear hK K
            (try simp only [Act.put, List.setIfInBounds_toArray, List.set_cons_zero, List.set_cons_succ])
            clear hq5
            replace Vq := Lib.hid (Vq.out.wrote hwt)
            replace Vp := Lib.hid (Vp.out.wrote hwt)
            replace Vr := Lib.hid (Vr.out.wrote hwt)
            replace HBB := Lib.hid (HBB.out.trans hwt)
            replace HWR := Lib.hid hwr
            clear hwr hwt
            refine wpAnyH_ready (rs := [16]) (by kernel_rfl) (by simp) ?_
            refine AllReadyH.cons (o := ?_) ?_ (fun K hK => ?_) AllReadyH.nil
            rotate_left 1
            · (simp only [List.getElem?_toArray, List.getElem?_cons_succ, List.getElem?_cons_zero]; first | done | rfl)
            go_simp
            go_at_call 14
            refine (wfilter_any b _ sc c0 cc cs _ w0 HWR.out HCL.out (HBL.out _ (HWT0.out.trans HBB.out)) hle HNUM.out (by simp [encText_len]; omega) hlm).mono ?_
            rintro e D138 ⟨rfl, hwr, hwt⟩
            first | (refine hK.out _ _ ?_ (fun hq7 => ?_)) | (go_wp2_with fail; refine hK.out _ _ ?_ (fun hq7 => ?_))
            · exact HSALL.out _ (HBB.out.trans hwt)
            clear hK K
            (try simp only [Act.put, List.setIfInBounds_toArray, List.set_cons_zero, List.set_cons_succ])
            clear hq6
            replace Vq := Lib.hid (Vq.out.wrote hwt)
            replace Vp := Lib.hid (Vp.out.wrote hwt)
            replace Vr := Lib.hid (Vr.out.wrote hwt)
            replace HBB := Lib.hid (HBB.out.trans hwt)
            replace HWR := Lib.hid hwr
            clear hwr hwt
            refine wpAnyH_ready (rs := [19]) (by kernel_rfl) (by simp) ?_
            refine AllReadyH.cons (o := ?_) ?_ (fun K hK => ?_) AllReadyH.nil
            rotate_left 1
            · (simp only [List.getElem?_toArray, List.getElem?_cons_succ, List.getElem?_cons_zero]; first | done | rfl)
            go_simp
            go_at_call 31
            refine (wtext_any b _ nm _ HWR.out (by simp [encText_len]; omega)).mono ?_
            rintro e D139 ⟨rfl, hwr, hwt⟩
            first | (refine hK.out _ _ ?_ (fun hq8 => ?_)) | (go_wp2_with fail; refine hK.out _ _ ?_ (fun hq8 => ?_))
            · exact HSALL.out _ (HBB.out.trans hwt)
            clear hK K
            (try simp only [Act.put, List.setIfInBounds_toArray, List.set_cons_zero, List.set_cons_succ])
            clear hq7
            replace Vq := Lib.hid (Vq.out.wrote hwt)
            replace Vp := Lib.hid (Vp.out.wrote hwt)
            replace Vr := Lib.hid (Vr.out.wrote hwt)
            replace HBB := Lib.hid (HBB.out.trans hwt)
            replace HWR := Lib.hid hwr
            clear hwr hwt
            refine wpAnyH_ready (rs := [23]) (by kernel_rfl) (by simp) ?_
            refine AllReadyH.cons (o := ?_) ?_ (fun K hK => ?_) AllReadyH.nil
            rotate_left 1
            · (simp only [List.getElem?_toArray, List.getElem?_cons_succ, List.getElem?_cons_zero]; first | done | rfl)
            go_simp
            go_at_call 29
            refine (wbyte_va HWR.out Vr.out (by simp [encText_len]; omega)).mono ?_
            rintro e D140 ⟨rfl, hwr, hwt⟩
            first | (refine hK.out _ _ ?_ (fun hq9 => ?_)) | (go_wp2_with fail; refine hK.out _ _ ?_ (fun hq9 => ?_))
            · exact HSALL.out _ (HBB.out.trans hwt)
            clear hK K
            (try simp only [Act.put, List.setIfInBounds_toArray, List.set_cons_zero, List.set_cons_succ])
            clear hq8
            replace Vq := Lib.hid (Vq.out.wrote hwt)
            replace Vp := Lib.hid (Vp.out.wrote hwt)
            replace Vr := Lib.hid (Vr.out.wrote hwt)
            replace HBB := Lib.hid (HBB.out.trans hwt)
            replace HWR := Lib.hid hwr
            clear hwr hwt
            refine wpAnyH_done (by kernel_rfl) ?_ _
            go_wp2_with fail
            first | go_end0 | refine bodyPost_ret (results_none rfl _ _ _) rfl ?_
            exact ⟨rfl, by rw [HE.out]; simpa only [List.append_assoc, List.map_cons, List.map_nil] using HWR.out, HWT0.out.trans HBB.out⟩
        · skip
          go_simp
          refine hK.out _ _ ?_ (fun hq4 => ?_)
          · exact HSALL.out _ (HBB.out.trans (wrote_below HWR.out.lt (balloc _ _)))
          clear hK K
          (try simp only [Act.put, List.setIfInBounds_toArray, List.set_cons_zero, List.set_cons_succ])
          clear hq3
          generalize hD : World.alloc D122 _ = D141 at hq4 ⊢
          have hb : Below D122.heap.size D122 D141 := by rw [← hD]; exact balloc _ _
          have Vr := Lib.hid (va_one pl 3 HWR.out); rw [hD] at Vr
          clear hD
          have ht := wrote_below HWR.out.lt hb
          replace Vq := Lib.hid (Vq.out.wrote ht)
          replace Vp := Lib.hid (Vp.out.wrote ht)
          replace HBB := Lib.hid (HBB.out.trans ht)
          replace HWR := Lib.hid (HWR.out.below hb)
          clear hb ht
          generalize D122.heap.size = r at *
          refine wpAnyH_ready (rs := [9]) (by kernel_rfl) (by simp) ?_
          refine AllReadyH.cons (o := ?_) ?_ (fun K hK => ?_) AllReadyH.nil
          rotate_left 1
          · (simp only [List.getElem?_toArray, List.getElem?_cons_succ, List.getElem?_cons_zero]; first | done | rfl)
          go_simp
          go_at_call 31
          refine (wtext_any b _ who _ HWR.out (by simp; omega)).mono ?_
          rintro e D142 ⟨rfl, hwr, hwt⟩
          first | (refine hK.out _ _ ?_ (fun hq5 => ?_)) | (go_wp2_with fail; refine hK.out _ _ ?_ (fun hq5 => ?_))
          · exact HSALL.out _ (HBB.out.trans hwt)
          clear hK K
          (try simp only [Act.put, List.setIfInBounds_toArray, List.set_cons_zero, List.set_cons_succ])
          clear hq4
          replace Vq := Lib.hid (Vq.out.wrote hwt)
          replace Vp := Lib.hid (Vp.out.wrote hwt)
          replace Vr := Lib.hid (Vr.out.wrote hwt)
          replace HBB := Lib.hid (HBB.out.trans hwt)
          replace HWR := Lib.hid hwr
          clear hwr hwt
          refine wpAnyH_ready (rs := [13]) (by kernel_rfl) (by simp) ?_
          refine AllReadyH.cons (o := ?_) ?_ (fun K hK => ?_) AllReadyH.nil
          rotate_left 1
          · (simp only [List.getElem?_toArray, List.getElem?_cons_succ, List.getElem?_cons_zero]; first | done | rfl)
          go_simp
          go_at_call 29
          refine (wbyte_va HWR.out Vq.out (by simp [encText_len]; omega)).mono ?_
          rintro e D143 ⟨rfl, hwr, hwt⟩
          first | (refine hK.out _ _ ?_ (fun hq6 => ?_)) | (go_wp2_with fail; refine hK.out _ _ ?_ (fun hq6 => ?_))
          · exact HSALL.out _ (HBB.out.trans hwt)
          clear hK K
          (try simp only [Act.put, List.setIfInBounds_toArray, List.set_cons_zero, List.set_cons_succ])
          clear hq5
          replace Vq := Lib.hid (Vq.out.wrote hwt)
          replace Vp := Lib.hid (Vp.out.wrote hwt)
          replace Vr := Lib.hid (Vr.out.wrote hwt)
          replace HBB := Lib.hid (HBB.out.trans hwt)
          replace HWR := Lib.hid hwr
          clear hwr hwt
          refine wpAnyH_ready (rs := [16]) (by kernel_rfl) (by simp) ?_
          refine AllReadyH.cons (o := ?_) ?_ (fun K hK => ?_) AllReadyH.nil
          rotate_left 1
          · (simp only [List.getElem?_toArray, List.getElem?_cons_succ, List.getElem?_cons_zero]; first | done | rfl)
          go_simp
          go_at_call 14
          refine (wfilter_any b _ sc c0 cc cs _ w0 HWR.out HCL.out (HBL.out _ (HWT0.out.trans HBB.out)) hle HNUM.out (by simp [encText_len]; omega) hlm).mono ?_
          rintro e D144 ⟨rfl, hwr, hwt⟩
          first | (refine hK.out _ _ ?_ (fun hq7 => ?_)) | (go_wp2_with fail; refine hK.out _ _ ?_ (fun hq7 => ?_))
          · exact HSALL.out _ (HBB.out.trans hwt)
          clear hK K
          (try simp only [Act.put, List.setIfInBounds_toArray, List.set_cons_zero, List.set_cons_succ])
          clear hq6
          replace Vq := Lib.hid (Vq.out.wrote hwt)
          replace Vp := Lib.hid (Vp.out.wrote hwt)
          replace Vr := Lib.hid (Vr.out.wrote hwt)
          replace HBB := Lib.hid (HBB.out.trans hwt)
          replace HWR := Lib.hid hwr
          clear hwr hwt
          refine wpAnyH_ready (rs := [19]) (by kernel_rfl) (by simp) ?_
          refine AllReadyH.cons (o := ?_) ?_ (fun K hK => ?_) AllReadyH.nil
          rotate_left 1
          · (simp only [List.getElem?_toArray, List.getElem?_cons_succ, List.getElem?_cons_zero]; first | done | rfl)
          go_simp
          go_at_call 31
          refine (wtext_any b _ nm _ HWR.out (by simp [encText_len]; omega)).mono ?_
          rintro e D145 ⟨rfl, hwr, hwt⟩
          first | (refine hK.out _ _ ?_ (fun hq8 => ?_)) | (go_wp2_with fail; refine hK.out _ _ ?_ (fun hq8 => ?_))
          · exact HSALL.out _ (HBB.out.trans hwt)
          clear hK K
          (try simp only [Act.put, List.setIfInBounds_toArray, List.set_cons_zero, List.set_cons_succ])
          clear hq7
          replace Vq := Lib.hid (Vq.out.wrote hwt)
          replace Vp := Lib.hid (Vp.out.wrote hwt)
          replace Vr := Lib.hid (Vr.out.wrote hwt)
          replace HBB := Lib.hid (HBB.out.trans hwt)
          replace HWR := Lib.hid hwr
          clear hwr hwt
          refine wpAnyH_ready (rs := [23]) (by kernel_rfl) (by simp) ?_
          refine AllReadyH.cons (o := ?_) ?_ (fun K hK => ?_) AllReadyH.nil
          rotate_left 1
          · (simp only [List.getElem?_toArray, List.getElem?_cons_succ, List.getElem?_cons_zero]; first | done | rfl)
          go_simp
          go_at_call 29
          refine (wbyte_va HWR.out Vr.out (by simp [encText_len]; omega)).mono ?_
          rintro e D146 ⟨rfl, hwr, hwt⟩
          first | (refine hK.out _ _ ?_ (fun hq9 => ?_)) | (go_wp2_with fail; refine hK.out _ _ ?_ (fun hq9 => ?_))
          · exact HSALL.out _ (HBB.out.trans hwt)
          clear hK K
          (try simp only [Act.put, List.setIfInBounds_toArray, List.set_cons_zero, List.set_cons_succ])
          clear hq8
          replace Vq := Lib.hid (Vq.out.wrote hwt)
          replace Vp := Lib.hid (Vp.out.wrote hwt)
          replace Vr := Lib.hid (Vr.out.wrote hwt)
          replace HBB := Lib.hid (HBB.out.trans hwt)
          replace HWR := Lib.hid hwr
          clear hwr hwt
          refine wpAnyH_done (by kernel_rfl) ?_ _
          go_wp2_with fail
          first | go_end0 | refine bodyPost_ret (results_none rfl _ _ _) rfl ?_
          exact ⟨rfl, by rw [HE.out]; simpa only [List.append_assoc, List.map_cons, List.map_nil] using HWR.out, HWT0.out.trans HBB.out⟩
      · skip
        go_simp
        refine hK.out _ _ ?_ (fun hq3 => ?_)
        · exact HSALL.out _ (HBB.out.trans (wrote_below HWR.out.lt (balloc _ _)))
        clear hK K
        (try simp only [Act.put, List.setIfInBounds_toArray, List.set_cons_zero, List.set_cons_succ])
        clear hq2
        generalize hD : World.alloc D121 _ = D147 at hq3 ⊢
        have hb : Below D121.heap.size D121 D147 := by rw [← hD]; exact balloc _ _
        have Vr := Lib.hid (va_one pl 3 HWR.out); rw [hD] at Vr
        clear hD
        have ht := wrote_below HWR.out.lt hb
        replace Vq := Lib.hid (Vq.out.wrote ht)
        replace Vp := Lib.hid (Vp.out.wrote ht)
        replace HBB := Lib.hid (HBB.out.trans ht)
        replace HWR := Lib.hid (HWR.out.below hb)
        clear hb ht
        generalize D121.heap.size = r at *
        refine wpAnyH_ready (rs := [6]) (by kernel_rfl) (by simp) ?_
        refine AllReadyH.cons (o := ?_) ?_ (fun K hK => ?_) AllReadyH.nil
        rotate_left 1
        · (simp only [List.getElem?_toArray, List.getElem?_cons_succ, List.getElem?_cons_zero]; first | done | rfl)
        go_simp
        go_at_call 29
        refine (wbyte_va HWR.out Vp.out (by simp; omega)).mono ?_
        rintro e D148 ⟨rfl, hwr, hwt⟩
        first | (refine hK.out _ _ ?_ (fun hq4 => ?_)) | (go_wp2_with fail; refine hK.out _ _ ?_ (fun hq4 => ?_))
        · exact HSALL.out _ (HBB.out.trans hwt)
        clear hK K
        (try simp only [Act.put, List.setIfInBounds_toArray, List.set_cons_zero, List.set_cons_succ])
        clear hq3
        replace Vq := Lib.hid (Vq.out.wrote hwt)
        replace Vp := Lib.hid (Vp.out.wrote hwt)
        replace Vr := Lib.hid (Vr.out.wrote hwt)
        replace HBB := Lib.hid (HBB.out.trans hwt)
        replace HWR := Lib.hid hwr
        clear hwr hwt
        refine wpAnyH_ready (rs := [9]) (by kernel_rfl) (by simp) ?_
        refine AllReadyH.cons (o := ?_) ?_ (fun K hK => ?_) AllReadyH.nil
        rotate_left 1
        · (simp only [List.getElem?_toArray, List.getElem?_cons_succ, List.getElem?_cons_zero]; first | done | rfl)
        go_simp
        go_at_call 31
        refine (wtext_any b _ who _ HWR.out (by simp; omega)).mono ?_
        rintro e D149 ⟨rfl, hwr, hwt⟩
        first | (refine hK.out _ _ ?_ (fun hq5 => ?_)) | (go_wp2_with fail; refine hK.out _ _ ?_ (fun hq5 => ?_))
        · exact HSALL.out _ (HBB.out.trans hwt)
        clear hK K
        (try simp only [Act.put, List.setIfInBounds_toArray, List.set_cons_zero, List.set_cons_succ])
        clear hq4
        replace Vq := Lib.hid (Vq.out.wrote hwt)
        replace Vp := Lib.hid (Vp.out.wrote hwt)
        replace Vr := Lib.hid (Vr.out.wrote hwt)
        replace HBB := Lib.hid (HBB.out.trans hwt)
        replace HWR := Lib.hid hwr
        clear hwr hwt
        refine wpAnyH_ready (rs := [13]) (by kernel_rfl) (by simp) ?_
        refine AllReadyH.cons (o := ?_) ?_ (fun K hK => ?_) AllReadyH.nil
        rotate_left 1
        · (simp only [List.getElem?_toArray, List.getElem?_cons_succ, List.getElem?_cons_zero]; first | done | rfl)
        go_simp
        go_at_call 29
        refine (wbyte_va HWR.out Vq.out (by simp [encText_len]; omega)).mono ?_
        rintro e D150 ⟨rfl, hwr, hwt⟩
        first | (refine hK.out _ _ ?_ (fun hq6 => ?_)) | (go_wp2_with fail; refine hK.out _ _ ?_ (fun hq6 => ?_))
        · exact HSALL.out _ (HBB.out.trans hwt)
        clear hK K
        (try simp only [Act.put, List.setIfInBounds_toArray, List.set_cons_zero, List.set_cons_succ])
        clear hq5
        replace Vq := Lib.hid (Vq.out.wrote hwt)
        replace Vp := Lib.hid (Vp.out.wrote hwt)
        replace Vr := Lib.hid (Vr.out.wrote hwt)
        replace HBB := Lib.hid (HBB.out.trans hwt)
        replace HWR := Lib.hid hwr
        clear hwr hwt
        refine wpAnyH_ready (rs := [16]) (by kernel_rfl) (by simp) ?_
        refine AllReadyH.cons (o := ?_) ?_ (fun K hK => ?_) AllReadyH.nil
        rotate_left 1
        · (simp only [List.getElem?_toArray, List.getElem?_cons_succ, List.getElem?_cons_zero]; first | done | rfl)
        go_simp
        go_at_call 14
        refine (wfilter_any b _ sc c0 cc cs _ w0 HWR.out HCL.out (HBL.out _ (HWT0.out.trans HBB.out)) hle HNUM.out (by simp [encText_len]; omega) hlm).mono ?_
        rintro e D151 ⟨rfl, hwr, hwt⟩
        first | (refine hK.out _ _ ?_ (fun hq7 => ?_)) | (go_wp2_with fail; refine hK.out _ _ ?_ (fun hq7 => ?_))
        · exact HSALL.out _ (HBB.out.trans hwt)
        clear hK K
        (try simp only [Act.put, List.setIfInBounds_toArray, List.set_cons_zero, List.set_cons_succ])
        clear hq6
        replace Vq := Lib.hid (Vq.out.wrote hwt)
        replace Vp := Lib.hid (Vp.out.wrote hwt)
        replace Vr := Lib.hid (Vr.out.wrote hwt)
        replace HBB := Lib.hid (HBB.out.trans hwt)
        replace HWR := Lib.hid hwr
        clear hwr hwt
        refine wpAnyH_ready (rs := [19]) (by kernel_rfl) (by simp) ?_
        refine AllReadyH.cons (o := ?_) ?_ (fun K hK => ?_) AllReadyH.nil
        rotate_left 1
        · (simp only [List.getElem?_toArray, List.getElem?_cons_succ, List.getElem?_cons_zero]; first | done | rfl)
        go_simp
        go_at_call 31
        refine (wtext_any b _ nm _ HWR.out (by simp [encText_len]; omega)).mono ?_
        rintro e D152 ⟨rfl, hwr, hwt⟩
        first | (refine hK.out _ _ ?_ (fun hq8 => ?_)) | (go_wp2_with fail; refine hK.out _ _ ?_ (fun hq8 => ?_))
        · exact HSALL.out _ (HBB.out.trans hwt)
        clear hK K
        (try simp only [Act.put, List.setIfInBounds_toArray, List.set_cons_zero, List.set_cons_succ])
        clear hq7
        replace Vq := Lib.hid (Vq.out.wrote hwt)
        replace Vp := Lib.hid (Vp.out.wrote hwt)
        replace Vr := Lib.hid (Vr.out.wrote hwt)
        replace HBB := Lib.hid (HBB.out.trans hwt)
        replace HWR := Lib.hid hwr
        clear hwr hwt
        refine wpAnyH_ready (rs := [23]) (by kernel_rfl) (by simp) ?_
        refine AllReadyH.cons (o := ?_) ?_ (fun K hK => ?_) AllReadyH.nil
        rotate_left 1
        · (simp only [List.getElem?_toArray, List.getElem?_cons_succ, List.getElem?_cons_zero]; first | done | rfl)
        go_simp
        go_at_call 29
        refine (wbyte_va HWR.out Vr.out (by simp [encText_len]; omega)).mono ?_
        rintro e D153 ⟨rfl, hwr, hwt⟩
        first | (refine hK.out _ _ ?_ (fun hq9 => ?_)) | (go_wp2_with fail; refine hK.out _ _ ?_ (fun hq9 => ?_))
        · exact HSALL.out _ (HBB.out.trans hwt)
        clear hK K
        (try simp only [Act.put, List.setIfInBounds_toArray, List.set_cons_zero, List.set_cons_succ])
        clear hq8
        replace Vq := Lib.hid (Vq.out.wrote hwt)
        replace Vp := Lib.hid (Vp.out.wrote hwt)
        replace Vr := Lib.hid (Vr.out.wrote hwt)
        replace HBB := Lib.hid (HBB.out.trans hwt)
        replace HWR := Lib.hid hwr
        clear hwr hwt
        refine wpAnyH_done (by kernel_rfl) ?_ _
        go_wp2_with fail
        first | go_end0 | refine bodyPost_ret (results_none rfl _ _ _) rfl ?_
        exact ⟨rfl, by rw [HE.out]; simpa only [List.append_assoc, List.map_cons, List.map_nil] using HWR.out, HWT0.out.trans HBB.out⟩
    · skip
      go_simp
      refine hK.out _ _ ?_ (fun hq2 => ?_)
      · exact HSALL.out _ (HBB.out.trans (wrote_below HWR.out.lt (balloc _ _)))
      clear hK K
      (try simp only [Act.put, List.setIfInBounds_toArray, List.set_cons_zero, List.set_cons_succ])
      clear hq1
      generalize hD : World.alloc D120 _ = D154 at hq2 ⊢
      have hb : Below D120.heap.size D120 D154 := by rw [← hD]; exact balloc _ _
      have Vr := Lib.hid (va_one pl 3 HWR.out); rw [hD] at Vr
      clear hD
      have ht := wrote_below HWR.out.lt hb
      replace Vq := Lib.hid (Vq.out.wrote ht)
      replace HBB := Lib.hid (HBB.out.trans ht)
      replace HWR := Lib.hid (HWR.out.below hb)
      clear hb ht
      generalize D120.heap.size = r at *
      refine wpAnyH_ready (rs := [5]) (by kernel_rfl) (by simp) ?_
      refine AllReadyH.cons (o := ?_) ?_ (fun K hK => ?_) AllReadyH.nil
      rotate_left 1
      · (simp only [List.getElem?_toArray, List.getElem?_cons_succ, List.getElem?_cons_zero]; first | done | rfl)
      go_simp
      refine hK.out _ _ ?_ (fun hq3 => ?_)
      · exact HSALL.out _ (HBB.out.trans (wrote_below HWR.out.lt (balloc _ _)))
      clear hK K
      (try simp only [Act.put, List.setIfInBounds_toArray, List.set_cons_zero, List.set_cons_succ])
      clear hq2
      generalize hD : World.alloc D154 _ = D155 at hq3 ⊢
      have hb : Below D154.heap.size D154 D155 := by rw [← hD]; exact balloc _ _
      have Vp := Lib.hid (va_two kd tn 3 HWR.out); rw [hD] at Vp
      clear hD
      have ht := wrote_below HWR.out.lt hb
      replace Vq := Lib.hid (Vq.out.wrote ht)
      replace Vr := Lib.hid (Vr.out.wrote ht)
      replace HBB := Lib.hid (HBB.out.trans ht)
      replace HWR := Lib.hid (HWR.out.below hb)
      clear hb ht
      generalize D154.heap.size = p at *
      refine wpAnyH_ready (rs := [6]) (by kernel_rfl) (by simp) ?_
      refine AllReadyH.cons (o := ?_) ?_ (fun K hK => ?_) AllReadyH.nil
      rotate_left 1
      · (simp only [List.getElem?_toArray, List.getElem?_cons_succ, List.getElem?_cons_zero]; first | done | rfl)
      go_simp
      go_at_call 29
      refine (wbyte_va HWR.out Vp.out (by simp; omega)).mono ?_
      rintro e D156 ⟨rfl, hwr, hwt⟩
      first | (refine hK.out _ _ ?_ (fun hq4 => ?_)) | (go_wp2_with fail; refine hK.out _ _ ?_ (fun hq4 => ?_))
      · exact HSALL.out _ (HBB.out.trans hwt)
      clear hK K
      (try simp only [Act.put, List.setIfInBounds_toArray, List.set_cons_zero, List.set_cons_succ])
      clear hq3
      replace Vq := Lib.hid (Vq.out.wrote hwt)
      replace Vr := Lib.hid (Vr.out.wrote hwt)
      replace Vp := Lib.hid (Vp.out.wrote hwt)
      replace HBB := Lib.hid (HBB.out.trans hwt)
      replace HWR := Lib.hid hwr
      clear hwr hwt
      refine wpAnyH_ready (rs := [9]) (by kernel_rfl) (by simp) ?_
      refine AllReadyH.cons (o := ?_) ?_ (fun K hK => ?_) AllReadyH.nil
      rotate_left 1
      · (simp only [List.getElem?_toArray, List.getElem?_cons_succ, List.getElem?_cons_zero]; first | done | rfl)
      go_simp
      go_at_call 31
      refine (wtext_any b _ who _ HWR.out (by simp; omega)).mono ?_
      rintro e D157 ⟨rfl, hwr, hwt⟩
      first | (refine hK.out _ _ ?_ (fun hq5 => ?_)) | (go_wp2_with fail; refine hK.out _ _ ?_ (fun hq5 => ?_))
      · exact HSALL.out _ (HBB.out.trans hwt)
      clear hK K
      (try simp only [Act.put, List.setIfInBounds_toArray, List.set_cons_zero, List.set_cons_succ])
      clear hq4
      replace Vq := Lib.hid (Vq.out.wrote hwt)
      replace Vr := Lib.hid (Vr.out.wrote hwt)
      replace Vp := Lib.hid (Vp.out.wrote hwt)
      replace HBB := Lib.hid (HBB.out.trans hwt)
      replace HWR := Lib.hid hwr
      clear hwr hwt
      refine wpAnyH_ready (rs := [13]) (by kernel_rfl) (by simp) ?_
      refine AllReadyH.cons (o := ?_) ?_ (fun K hK => ?_) AllReadyH.nil
      rotate_left 1
      · (simp only [List.getElem?_toArray, List.getElem?_cons_succ, List.getElem?_cons_zero]; first | done | rfl)
      go_simp
      go_at_call 29
      refine (wbyte_va HWR.out Vq.out (by simp [encText_len]; omega)).mono ?_
      rintro e D158 ⟨rfl, hwr, hwt⟩
      first | (refine hK.out _ _ ?_ (fun hq6 => ?_)) | (go_wp2_with fail; refine hK.out _ _ ?_ (fun hq6 => ?_))
      · exact HSALL.out _ (HBB.out.trans hwt)
      clear hK K
      (try simp only [Act.put, List.setIfInBounds_toArray, List.set_cons_zero, List.set_cons_succ])
      clear hq5
      replace Vq := Lib.hid (Vq.out.wrote hwt)
      replace Vr := Lib.hid (Vr.out.wrote hwt)
      replace Vp := Lib.hid (Vp.out.wrote hwt)
      replace HBB := Lib.hid (HBB.out.trans hwt)
      replace HWR := Lib.hid hwr
      clear hwr hwt
      refine wpAnyH_ready (rs := [16]) (by kernel_rfl) (by simp) ?_
      refine AllReadyH.cons (o := ?_) ?_ (fun K hK => ?_) AllReadyH.nil
      rotate_left 1
      · (simp only [List.getElem?_toArray, List.getElem?_cons_succ, List.getElem?_cons_zero]; first | done | rfl)
      go_simp
      go_at_call 14
      refine (wfilter_any b _ sc c0 cc cs _ w0 HWR.out HCL.out (HBL.out _ (HWT0.out.trans HBB.out)) hle HNUM.out (by simp [encText_len]; omega) hlm).mono ?_
      rintro e D159 ⟨rfl, hwr, hwt⟩
      first | (refine hK.out _ _ ?_ (fun hq7 => ?_)) | (go_wp2_with fail; refine hK.out _ _ ?_ (fun hq7 => ?_))
      · exact HSALL.out _ (HBB.out.trans hwt)
      clear hK K
      (try simp only [Act.put, List.setIfInBounds_toArray, List.set_cons_zero, List.set_cons_succ])
      clear hq6
      replace Vq := Lib.hid (Vq.out.wrote hwt)
      replace Vr := Lib.hid (Vr.out.wrote hwt)
      replace Vp := Lib.hid (Vp.out.wrote hwt)
      replace HBB := Lib.hid (HBB.out.trans hwt)
      replace HWR := Lib.hid hwr
      clear hwr hwt
      refine wpAnyH_ready (rs := [19]) (by kernel_rfl) (by simp) ?_
      refine AllReadyH.cons (o := ?_) ?_ (fun K hK => ?_) AllReadyH.nil
      rotate_left 1
      · (simp only [List.getElem?_toArray, List.getElem?_cons_succ, List.getElem?_cons_zero]; first | done | rfl)
      go_simp
      go_at_call 31
      refine (wtext_any b _ nm _ HWR.out (by simp [encText_len]; omega)).mono ?_
      rintro e D160 ⟨rfl, hwr, hwt⟩
      first | (refine hK.out _ _ ?_ (fun hq8 => ?_)) | (go_wp2_with fail; refine hK.out _ _ ?_ (fun hq8 => ?_))
      · exact HSALL.out _ (HBB.out.trans hwt)
      clear hK K
      (try simp only [Act.put, List.setIfInBounds_toArray, List.set_cons_zero, List.set_cons_succ])
      clear hq7
      replace Vq := Lib.hid (Vq.out.wrote hwt)
      replace Vr := Lib.hid (Vr.out.wrote hwt)
      replace Vp := Lib.hid (Vp.out.wrote hwt)
      replace HBB := Lib.hid (HBB.out.trans hwt)
      replace HWR := Lib.hid hwr
      clear hwr hwt
      refine wpAnyH_ready (rs := [23]) (by kernel_rfl) (by simp) ?_
      refine AllReadyH.cons (o := ?_) ?_ (fun K hK => ?_) AllReadyH.nil
      rotate_left 1
      · (simp only [List.getElem?_toArray, List.getElem?_cons_succ, List.getElem?_cons_zero]; first | done | rfl)
      go_simp
      go_at_call 29
      refine (wbyte_va HWR.out Vr.out (by simp [encText_len]; omega)).mono ?_
      rintro e D161 ⟨rfl, hwr, hwt⟩
      first | (refine hK.out _ _ ?_ (fun hq9 => ?_)) | (go_wp2_with fail; refine hK.out _ _ ?_ (fun hq9 => ?_))
      · exact HSALL.out _ (HBB.out.trans hwt)
      clear hK K
      (try simp only [Act.put, List.setIfInBounds_toArray, List.set_cons_zero, List.set_cons_succ])
      clear hq8
      replace Vq := Lib.hid (Vq.out.wrote hwt)
      replace Vr := Lib.hid (Vr.out.wrote hwt)
      replace Vp := Lib.hid (Vp.out.wrote hwt)
      replace HBB := Lib.hid (HBB.out.trans hwt)
      replace HWR := Lib.hid hwr
      clear hwr hwt
      refine wpAnyH_done (by kernel_rfl) ?_ _
      go_wp2_with fail
      first | go_end0 | refine bodyPost_ret (results_none rfl _ _ _) rfl ?_
      exact ⟨rfl, by rw [HE.out]; simpa only [List.append_assoc, List.map_cons, List.map_nil] using HWR.out, HWT0.out.trans HBB.out⟩
  · skip
    go_simp
    refine hK.out _ _ ?_ (fun hq1 => ?_)
    · exact HSALL.out _ (HBB.out.trans (wrote_below HWR.out.lt (balloc _ _)))
    clear hK K
    (try simp only [Act.put, List.setIfInBounds_toArray, List.set_cons_zero, List.set_cons_succ])
    clear hq0
    generalize hD : World.alloc D0 _ = D162 at hq1 ⊢
    have hb : Below D0.heap.size D0 D162 := by rw [← hD]; exact balloc _ _
    have Vr := Lib.hid (va_one pl 3 HWR.out); rw [hD] at Vr
    clear hD
    have ht := wrote_below HWR.out.lt hb
    replace HBB := Lib.hid (HBB.out.trans ht)
    replace HWR := Lib.hid (HWR.out.below hb)
    clear hb ht
    generalize D0.heap.size = r at *
    refine wpAnyH_ready (rs := [5, 12]) (by kernel_rfl) (by simp) ?_
    refine AllReadyH.cons (o := ?_) ?_ (fun K hK => ?_) ?_
    rotate_left 1
    · (simp only [List.getElem?_toArray, List.getElem?_cons_succ, List.getElem?_cons_zero]; first | done | rfl)
    rotate_left 1
    refine AllReadyH.cons (o := ?_) ?_ (fun K hK => ?_) AllReadyH.nil
    rotate_left 1
    · (simp only [List.getElem?_toArray, List.getElem?_cons_succ, List.getElem?_cons_zero]; first | done | rfl)
    rotate_left 1
    · skip
      go_simp
      refine hK.out _ _ ?_ (fun hq2 => ?_)
      · exact HSALL.out _ (HBB.out.trans (wrote_below HWR.out.lt (balloc _ _)))
      clear hK K
      (try simp only [Act.put, List.setIfInBounds_toArray, List.set_cons_zero, List.set_cons_succ])
      clear hq1
      generalize hD : World.alloc D162 _ = D163 at hq2 ⊢
      have hb : Below D162.heap.size D162 D163 := by rw [← hD]; exact balloc _ _
      have Vp := Lib.hid (va_two kd tn 3 HWR.out); rw [hD] at Vp
      clear hD
      have ht := wrote_below HWR.out.lt hb
      replace Vr := Lib.hid (Vr.out.wrote ht)
      replace HBB := Lib.hid (HBB.out.trans ht)
      replace HWR := Lib.hid (HWR.out.below hb)
      clear hb ht
      generalize D162.heap.size = p at *
      refine wpAnyH_ready (rs := [6, 12]) (by kernel_rfl) (by simp) ?_
      refine AllReadyH.cons (o := ?_) ?_ (fun K hK => ?_) ?_
      rotate_left 1
      · (simp only [List.getElem?_toArray, List.getElem?_cons_succ, List.getElem?_cons_zero]; first | done | rfl)
      rotate_left 1
      refine AllReadyH.cons (o := ?_) ?_ (fun K hK => ?_) AllReadyH.nil
      rotate_left 1
      · (simp only [List.getElem?_toArray, List.getElem?_cons_succ, List.getElem?_cons_zero]; first | done | rfl)
      rotate_left 1
      · skip
        go_simp
        go_at_call 29
        refine (wbyte_va HWR.out Vp.out (by simp; omega)).mono ?_
        rintro e D164 ⟨rfl, hwr, hwt⟩
        first | (refine hK.out _ _ ?_ (fun hq3 => ?_)) | (go_wp2_with fail; refine hK.out _ _ ?_ (fun hq3 => ?_))
        · exact HSALL.out _ (HBB.out.trans hwt)
        clear hK K
        (try simp only [Act.put, List.setIfInBounds_toArray, List.set_cons_zero, List.set_cons_succ])
        clear hq2
        replace Vr := Lib.hid (Vr.out.wrote hwt)
        replace Vp := Lib.hid (Vp.out.wrote hwt)
        replace HBB := Lib.hid (HBB.out.trans hwt)
        replace HWR := Lib.hid hwr
        clear hwr hwt
        refine wpAnyH_ready (rs := [9, 12]) (by kernel_rfl) (by simp) ?_
        refine AllReadyH.cons (o := ?_) ?_ (fun K hK => ?_) ?_
        rotate_left 1
        · (simp only [List.getElem?_toArray, List.getElem?_cons_succ, List.getElem?_cons_zero]; first | done | rfl)
        rotate_left 1
        refine AllReadyH.cons (o := ?_) ?_ (fun K hK => ?_) AllReadyH.nil
        rotate_left 1
        · (simp only [List.getElem?_toArray, List.getElem?_cons_succ, List.getElem?_cons_zero]; first | done | rfl)
        rotate_left 1
        · skip
          go_simp
          go_at_call 31
          refine (wtext_any b _ who _ HWR.out (by simp; omega)).mono ?_
          rintro e D165 ⟨rfl, hwr, hwt⟩
          first | (refine hK.out _ _ ?_ (fun hq4 => ?_)) | (go_wp2_with fail; refine hK.out _ _ ?_ (fun hq4 => ?_))
          · exact HSALL.out _ (HBB.out.trans hwt)
          clear hK K
          (try simp only [Act.put, List.setIfInBounds_toArray, List.set_cons_zero, List.set_cons_succ])
          clear hq3
          replace Vr := Lib.hid (Vr.out.wrote hwt)
          replace Vp := Lib.hid (Vp.out.wrote hwt)
          replace HBB := Lib.hid (HBB.out.trans hwt)
          replace HWR := Lib.hid hwr
          clear hwr hwt
          refine wpAnyH_ready (rs := [12]) (by kernel_rfl) (by simp) ?_
          refine AllReadyH.cons (o := ?_) ?_ (fun K hK => ?_) AllReadyH.nil
          rotate_left 1
          · (simp only [List.getElem?_toArray, List.getElem?_cons_succ, List.getElem?_cons_zero]; first | done | rfl)
          go_simp
          refine hK.out _ _ ?_ (fun hq5 => ?_)
          · exact HSALL.out _ (HBB.out.trans (wrote_below HWR.out.lt (balloc _ _)))
          clear hK K
          (try simp only [Act.put, List.setIfInBounds_toArray, List.set_cons_zero, List.set_cons_succ])
          clear hq4
          generalize hD : World.alloc D165 _ = D166 at hq5 ⊢
          have hb : Below D165.heap.size D165 D166 := by rw [← hD]; exact balloc _ _
          have Vq := Lib.hid (va_one br 3 HWR.out); rw [hD] at Vq
          clear hD
          have ht := wrote_below HWR.out.lt hb
          replace Vr := Lib.hid (Vr.out.wrote ht)
          replace Vp := Lib.hid (Vp.out.wrote ht)
          replace HBB := Lib.hid (HBB.out.trans ht)
          replace HWR := Lib.hid (HWR.out.below hb)
          clear hb ht
          generalize D165.heap.size = q at *
          refine wpAnyH_ready (rs := [13]) (by kernel_rfl) (by simp) ?_
          refine AllReadyH.cons (o := ?_) ?_ (fun K hK => ?_) AllReadyH.nil
          rotate_left 1
          · (simp only [List.getElem?_toArray, List.getElem?_cons_succ, List.getElem?_cons_zero]; first | done | rfl)
          go_simp
          go_at_call 29
          refine (wbyte_va HWR.out Vq.out (by simp [encText_len]; omega)).mono ?_
          rintro e D167 ⟨rfl, hwr, hwt⟩
          first | (refine hK.out _ _ ?_ (fun hq6 => ?_)) | (go_wp2_with fail; refine hK.out _ _ ?_ (fun hq6 => ?_))
          · exact HSALL.out _ (HBB.out.trans hwt)
          clear hK K
          (try simp only [Act.put, List.setIfInBounds_toArray, List.set_cons_zero, List.set_cons_succ])
          clear hq5
          replace Vr := Lib.hid (Vr.out.wrote hwt)
          replace Vp := Lib.hid (Vp.out.wrote hwt)
          replace Vq := Lib.hid (Vq.out.wrote hwt)
          replace HBB := Lib.hid (HBB.out.trans hwt)
          replace HWR := Lib.hid hwr
          clear hwr hwt
          refine wpAnyH_ready (rs := [16]) (by kernel_rfl) (by simp) ?_
          refine AllReadyH.cons (o := ?_) ?_ (fun K hK => ?_) AllReadyH.nil
          rotate_left 1
          · (simp only [List.getElem?_toArray, List.getElem?_cons_succ, List.getElem?_cons_zero]; first | done | rfl)
          go_simp
          go_at_call 14
          refine (wfilter_any b _ sc c0 cc cs _ w0 HWR.out HCL.out (HBL.out _ (HWT0.out.trans HBB.out)) hle HNUM.out (by simp [encText_len]; omega) hlm).mono ?_
          rintro e D168 ⟨rfl, hwr, hwt⟩
          first | (refine hK.out _ _ ?_ (fun hq7 => ?_)) | (go_wp2_with fail; refine hK.out _ _ ?_ (fun hq7 => ?_))
          · exact HSALL.out _ (HBB.out.trans hwt)
          clear hK K
          (try simp only [Act.put, List.setIfInBounds_toArray, List.set_cons_zero, List.set_cons_succ])
          clear hq6
          replace Vr := Lib.hid (Vr.out.wrote hwt)
          replace Vp := Lib.hid (Vp.out.wrote hwt)
          replace Vq := Lib.hid (Vq.out.wrote hwt)
          replace HBB := Lib.hid (HBB.out.trans hwt)
          replace HWR := Lib.hid hwr
          clear hwr hwt
          refine wpAnyH_ready (rs := [19]) (by kernel_rfl) (by simp) ?_
          refine AllReadyH.cons (o := ?_) ?_ (fun K hK => ?_) AllReadyH.nil
          rotate_left 1
          · (simp only [List.getElem?_toArray, List.getElem?_cons_succ, List.getElem?_cons_zero]; first | done | rfl)
          go_simp
          go_at_call 31
          refine (wtext_any b _ nm _ HWR.out (by simp [encText_len]; omega)).mono ?_
          rintro e D169 ⟨rfl, hwr, hwt⟩
          first | (refine hK.out _ _ ?_ (fun hq8 => ?_)) | (go_wp2_with fail; refine hK.out _ _ ?_ (fun hq8 => ?_))
          · exact HSALL.out _ (HBB.out.trans hwt)
          clear hK K
          (try simp only [Act.put, List.setIfInBounds_toArray, List.set_cons_zero, List.set_cons_succ])
          clear hq7
          replace Vr := Lib.hid (Vr.out.wrote hwt)
          replace Vp := Lib.hid (Vp.out.wrote hwt)
          replace Vq := Lib.hid (Vq.out.wrote hwt)
          replace HBB := Lib.hid (HBB.out.trans hwt)
          replace HWR := Lib.hid hwr
          clear hwr hwt
          refine wpAnyH_ready (rs := [23]) (by kernel_rfl) (by simp) ?_
          refine AllReadyH.cons (o := ?_) ?_ (fun K hK => ?_) AllReadyH.nil
          rotate_left 1
          · (simp only [List.getElem?_toArray, List.getElem?_cons_succ, List.getElem?_cons_zero]; first | done | rfl)
          go_simp
          go_at_call 29
          refine (wbyte_va HWR.out Vr.out (by simp [encText_len]; omega)).mono ?_
          rintro e D170 ⟨rfl, hwr, hwt⟩
          first | (refine hK.out _ _ ?_ (fun hq9 => ?_)) | (go_wp2_with fail; refine hK.out _ _ ?_ (fun hq9 => ?_))
          · exact HSALL.out _ (HBB.out.trans hwt)
          clear hK K
          (try simp only [Act.put, List.setIfInBounds_toArray, List.set_cons_zero, List.set_cons_succ])
          clear hq8
          replace Vr := Lib.hid (Vr.out.wrote hwt)
          replace Vp := Lib.hid (Vp.out.wrote hwt)
          replace Vq := Lib.hid (Vq.out.wrote hwt)
          replace HBB := Lib.hid (HBB.out.trans hwt)
          replace HWR := Lib.hid hwr
          clear hwr hwt
          refine wpAnyH_done (by kernel_rfl) ?_ _
          go_wp2_with fail
          first | go_end0 | refine bodyPost_ret (results_none rfl _ _ _) rfl ?_
          exact ⟨rfl, by rw [HE.out]; simpa only [List.append_assoc, List.map_cons, List.map_nil] using HWR.out, HWT0.out.trans HBB.out⟩
        · skip
          go_simp
          refine hK.out _ _ ?_ (fun hq4 => ?_)
          · exact HSALL.out _ (HBB.out.trans (wrote_below HWR.out.lt (balloc _ _)))
          clear hK K
          (try simp only [Act.put, List.setIfInBounds_toArray, List.set_cons_zero, List.set_cons_succ])
          clear hq3
          generalize hD : World.alloc D164 _ = D171 at hq4 ⊢
          have hb : Below D164.heap.size D164 D171 := by rw [← hD]; exact balloc _ _
          have Vq := Lib.hid (va_one br 3 HWR.out); rw [hD] at Vq
          clear hD
          have ht := wrote_below HWR.out.lt hb
          replace Vr := Lib.hid (Vr.out.wrote ht)
          replace Vp := Lib.hid (Vp.out.wrote ht)
          replace HBB := Lib.hid (HBB.out.trans ht)
          replace HWR := Lib.hid (HWR.out.below hb)
          clear hb ht
          generalize D164.heap.size = q at *
          refine wpAnyH_ready (rs := [9]) (by kernel_rfl) (by simp) ?_
          refine AllReadyH.cons (o := ?_) ?_ (fun K hK => ?_) AllReadyH.nil
          rotate_left 1
          · (simp only [List.getElem?_toArray, List.getElem?_cons_succ, List.getElem?_cons_zero]; first | done | rfl)
          go_simp
          go_at_call 31
          refine (wtext_any b _ who _ HWR.out (by simp; omega)).mono ?_
          rintro e D172 ⟨rfl, hwr, hwt⟩
          first | (refine hK.out _ _ ?_ (fun hq5 => ?_)) | (go_wp2_with fail; refine hK.out _ _ ?_ (fun hq5 => ?_))
          · exact HSALL.out _ (HBB.out.trans hwt)
          clear hK K
          (try simp only [Act.put, List.setIfInBounds_toArray, List.set_cons_zero, List.set_cons_succ])
          clear hq4
          replace Vr := Lib.hid (Vr.out.wrote hwt)
          replace Vp := Lib.hid (Vp.out.wrote hwt)
          replace Vq := Lib.hid (Vq.out.wrote hwt)
          replace HBB := Lib.hid (HBB.out.trans hwt)
          replace HWR := Lib.hid hwr
          clear hwr hwt
          refine wpAnyH_ready (rs := [13]) (by kernel_rfl) (by simp) ?_
          refine AllReadyH.cons (o := ?_) ?_ (fun K hK => ?_) AllReadyH.nil
          rotate_left 1
          · (simp only [List.getElem?_toArray, List.getElem?_cons_succ, List.getElem?_cons_zero]; first | done | rfl)
          go_simp
          go_at_call 29
          refine (wbyte_va HWR.out Vq.out (by simp [encText_len]; omega)).mono ?_
          rintro e D173 ⟨rfl, hwr, hwt⟩
          first | (refine hK.out _ _ ?_ (fun hq6 => ?_)) | (go_wp2_with fail; refine hK.out _ _ ?_ (fun hq6 => ?_))
          · exact HSALL.out _ (HBB.out.trans hwt)
          clear hK K
          (try simp only [Act.put, List.setIfInBounds_toArray, List.set_cons_zero, List.set_cons_succ])
          clear hq5
          replace Vr := Lib.hid (Vr.out.wrote hwt)
          replace Vp := Lib.hid (Vp.out.wrote hwt)
          replace Vq := Lib.hid (Vq.out.wrote hwt)
          replace HBB := Lib.hid (HBB.out.trans hwt)
          replace HWR := Lib.hid hwr
          clear hwr hwt
          refine wpAnyH_ready (rs := [16]) (by kernel_rfl) (by simp) ?_
          refine AllReadyH.cons (o := ?_) ?_ (fun K hK => ?_) AllReadyH.nil
          rotate_left 1
          · (simp only [List.getElem?_toArray, List.getElem?_cons_succ, List.getElem?_cons_zero]; first | done | rfl)
          go_simp
          go_at_call 14
          refine (wfilter_any b _ sc c0 cc cs _ w0 HWR.out HCL.out (HBL.out _ (HWT0.out.trans HBB.out)) hle HNUM.out (by simp [encText_len]; omega) hlm).mono ?_
          rintro e D174 ⟨rfl, hwr, hwt⟩
          first | (refine hK.out _ _ ?_ (fun hq7 => ?_)) | (go_wp2_with fail; refine hK.out _ _ ?_ (fun hq7 => ?_))
          · exact HSALL.out _ (HBB.out.trans hwt)
          clear hK K
          (try simp only [Act.put, List.setIfInBounds_toArray, List.set_cons_zero, List.set_cons_succ])
          clear hq6
          replace Vr := Lib.hid (Vr.out.wrote hwt)
          replace Vp := Lib.hid (Vp.out.wrote hwt)
          replace Vq := Lib.hid (Vq.out.wrote hwt)
          replace HBB := Lib.hid (HBB.out.trans hwt)
          replace HWR := Lib.hid hwr
          clear hwr hwt
          refine wpAnyH_ready (rs := [19]) (by kernel_rfl) (by simp) ?_
          refine AllReadyH.cons (o := ?_) ?_ (fun K hK => ?_) AllReadyH.nil
          rotate_left 1
          · (simp only [List.getElem?_toArray, List.getElem?_cons_succ, List.getElem?_cons_zero]; first | done | rfl)
          go_simp
          go_at_call 31
          refine (wtext_any b _ nm _ HWR.out (by simp [encText_len]; omega)).mono ?_
          rintro e D175 ⟨rfl, hwr, hwt⟩
          first | (refine hK.out _ _ ?_ (fun hq8 => ?_)) | (go_wp2_with fail; refine hK.out _ _ ?_ (fun hq8 => ?_))
          · exact HSALL.out _ (HBB.out.trans hwt)
          clear hK K
          (try simp only [Act.put, List.setIfInBounds_toArray, List.set_cons_zero, List.set_cons_succ])
          clear hq7
          replace Vr := Lib.hid (Vr.out.wrote hwt)
          replace Vp := Lib.hid (Vp.out.wrote hwt)
          replace Vq := Lib.hid (Vq.out.wrote hwt)
          replace HBB := Lib.hid (HBB.out.trans hwt)
          replace HWR := Lib.hid hwr
          clear hwr hwt
          refine wpAnyH_ready (rs := [23]) (by kernel_rfl) (by simp) ?_
          refine AllReadyH.cons (o := ?_) ?_ (fun K hK => ?_) AllReadyH.nil
          rotate_left 1
          · (simp only [List.getElem?_toArray, List.getElem?_cons_succ, List.getElem?_cons_zero]; first | done | rfl)
          go_simp
          go_at_call 29
          refine (wbyte_va HWR.out Vr.out (by simp [encText_len]; omega)).mono ?_
          rintro e D176 ⟨rfl, hwr, hwt⟩
          first | (refine hK.out _ _ ?_ (fun hq9 => ?_)) | (go_wp2_with fail; refine hK.out _ _ ?_ (fun hq9 => ?_))
          · exact HSALL.out _ (HBB.out.trans hwt)
          clear hK K
          (try simp only [Act.put, List.setIfInBounds_toArray, List.set_cons_zero, List.set_cons_succ])
          clear hq8
          replace Vr := Lib.hid (Vr.out.wrote hwt)
          replace Vp := Lib.hid (Vp.out.wrote hwt)
          replace Vq := Lib.hid (Vq.out.wrote hwt)
          replace HBB := Lib.hid (HBB.out.trans hwt)
          replace HWR := Lib.hid hwr
          clear hwr hwt
          refine wpAnyH_done (by kernel_rfl) ?_ _
          go_wp2_with fail
          first | go_end0 | refine bodyPost_ret (results_none rfl _ _ _) rfl ?_
          exact ⟨rfl, by rw [HE.out]; simpa only [List.append_assoc, List.map_cons, List.map_nil] using HWR.out, HWT0.out.trans HBB.out⟩
      · skip
        go_simp
        refine hK.out _ _ ?_ (fun hq3 => ?_)
        · exact HSALL.out _ (HBB.out.trans (wrote_below HWR.out.lt (balloc _ _)))
        clear hK K
        (try simp only [Act.put, List.setIfInBounds_toArray, List.set_cons_zero, List.set_cons_succ])
        clear hq2
        generalize hD : World.alloc D163 _ = D177 at hq3 ⊢
        have hb : Below D163.heap.size D163 D177 := by rw [← hD]; exact balloc _ _
        have Vq := Lib.hid (va_one br 3 HWR.out); rw [hD] at Vq
        clear hD
        have ht := wrote_below HWR.out.lt hb
        replace Vr := Lib.hid (Vr.out.wrote ht)
        replace Vp := Lib.hid (Vp.out.wrote ht)
        replace HBB := Lib.hid (HBB.out.trans ht)
        replace HWR := Lib.hid (HWR.out.below hb)
        clear hb ht
        generalize D163.heap.size = q at *
        refine wpAnyH_ready (rs := [6]) (by kernel_rfl) (by simp) ?_
        refine AllReadyH.cons (o := ?_) ?_ (fun K hK => ?_) AllReadyH.nil
        rotate_left 1
        · (simp only [List.getElem?_toArray, List.getElem?_cons_succ, List.getElem?_cons_zero]; first | done | rfl)
        go_simp
        go_at_call 29
        refine (wbyte_va HWR.out Vp.out (by simp; omega)).mono ?_
        rintro e D178 ⟨rfl, hwr, hwt⟩
        first | (refine hK.out _ _ ?_ (fun hq4 => ?_)) | (go_wp2_with fail; refine hK.out _ _ ?_ (fun hq4 => ?_))
        · exact HSALL.out _ (HBB.out.trans hwt)
        clear hK K
        (try simp only [Act.put, List.setIfInBounds_toArray, List.set_cons_zero, List.set_cons_succ])
        clear hq3
        replace Vr := Lib.hid (Vr.out.wrote hwt)
        replace Vp := Lib.hid (Vp.out.wrote hwt)
        replace Vq := Lib.hid (Vq.out.wrote hwt)
        replace HBB := Lib.hid (HBB.out.trans hwt)
        replace HWR := Lib.hid hwr
        clear hwr hwt
        refine wpAnyH_ready (rs := [9]) (by kernel_rfl) (by simp) ?_
        refine AllReadyH.cons (o := ?_) ?_ (fun K hK => ?_) AllReadyH.nil
        rotate_left 1
        · (simp only [List.getElem?_toArray, List.getElem?_cons_succ, List.getElem?_cons_zero]; first | done | rfl)
        go_simp
        go_at_call 31
        refine (wtext_any b _ who _ HWR.out (by simp; omega)).mono ?_
        rintro e D179 ⟨rfl, hwr, hwt⟩
        first | (refine hK.out _ _ ?_ (fun hq5 => ?_)) | (go_wp2_with fail; refine hK.out _ _ ?_ (fun hq5 => ?_))
        · exact HSALL.out _ (HBB.out.trans hwt)
        clear hK K
        (try simp only [Act.put, List.setIfInBounds_toArray, List.set_cons_zero, List.set_cons_succ])
        clear hq4
        replace Vr := Lib.hid (Vr.out.wrote hwt)
        replace Vp := Lib.hid (Vp.out.wrote hwt)
        replace Vq := Lib.hid (Vq.out.wrote hwt)
        replace HBB := Lib.hid (HBB.out.trans hwt)
        replace HWR := Lib.hid hwr
        clear hwr hwt
        refine wpAnyH_ready (rs := [13]) (by kernel_rfl) (by simp) ?_
        refine AllReadyH.cons (o := ?_) ?_ (fun K hK => ?_) AllReadyH.nil
        rotate_left 1
        · (simp only [List.getElem?_toArray, List.getElem?_cons_succ, List.getElem?_cons_zero]; first | done | rfl)
        go_simp
        go_at_call 29
        refine (wbyte_va HWR.out Vq.out (by simp [encText_len]; omega)).mono ?_
        rintro e D180 ⟨rfl, hwr, hwt⟩
        first | (refine hK.out _ _ ?_ (fun hq6 => ?_)) | (go_wp2_with fail; refine hK.out _ _ ?_ (fun hq6 => ?_))
        · exact HSALL.out _ (HBB.out.trans hwt)
        clear hK K
        (try simp only [Act.put, List.setIfInBounds_toArray, List.set_cons_zero, List.set_cons_succ])
        clear hq5
        replace Vr := Lib.hid (Vr.out.wrote hwt)
        replace Vp := Lib.hid (Vp.out.wrote hwt)
        replace Vq := Lib.hid (Vq.out.wrote hwt)
        replace HBB := Lib.hid (HBB.out.trans hwt)
        replace HWR := Lib.hid hwr
        clear hwr hwt
        refine wpAnyH_ready (rs := [16]) (by kernel_rfl) (by simp) ?_
        refine AllReadyH.cons (o := ?_) ?_ (fun K hK => ?_) AllReadyH.nil
        rotate_left 1
        · (simp only [List.getElem?_toArray, List.getElem?_cons_succ, List.getElem?_cons_zero]; first | done | rfl)
        go_simp
        go_at_call 14
        refine (wfilter_any b _ sc c0 cc cs _ w0 HWR.out HCL.out (HBL.out _ (HWT0.out.trans HBB.out)) hle HNUM.out (by simp [encText_len]; omega) hlm).mono ?_
        rintro e D181 ⟨rfl, hwr, hwt⟩
        first | (refine hK.out _ _ ?_ (fun hq7 => ?_)) | (go_wp2_with fail; refine hK.out _ _ ?_ (fun hq7 => ?_))
        · exact HSALL.out _ (HBB.out.trans hwt)
        clear hK K
        (try simp only [Act.put, List.setIfInBounds_toArray, List.set_cons_zero, List.set_cons_succ])
        clear hq6
        replace Vr := Lib.hid (Vr.out.wrote hwt)
        replace Vp := Lib.hid (Vp.out.wrote hwt)
        replace Vq := Lib.hid (Vq.out.wrote hwt)
        replace HBB := Lib.hid (HBB.out.trans hwt)
        replace HWR := Lib.hid hwr
        clear hwr hwt
        refine wpAnyH_ready (rs := [19]) (by kernel_rfl) (by simp) ?_
        refine AllReadyH.cons (o := ?_) ?_ (fun K hK => ?_) AllReadyH.nil
        rotate_left 1
        · (simp only [List.getElem?_toArray, List.getElem?_cons_succ, List.getElem?_cons_zero]; first | done | rfl)
        go_simp
        go_at_call 31
        refine (wtext_any b _ nm _ HWR.out (by simp [encText_len]; omega)).mono ?_
        rintro e D182 ⟨rfl, hwr, hwt⟩
        first | (refine hK.out _ _ ?_ (fun hq8 => ?_)) | (go_wp2_with fail; refine hK.out _ _ ?_ (fun hq8 => ?_))
        · exact HSALL.out _ (HBB.out.trans hwt)
        clear hK K
        (try simp only [Act.put, List.setIfInBounds_toArray, List.set_cons_zero, List.set_cons_succ])
        clear hq7
        replace Vr := Lib.hid (Vr.out.wrote hwt)
        replace Vp := Lib.hid (Vp.out.wrote hwt)
        replace Vq := Lib.hid (Vq.out.wrote hwt)
        replace HBB := Lib.hid (HBB.out.trans hwt)
        replace HWR := Lib.hid hwr
        clear hwr hwt
        refine wpAnyH_ready (rs := [23]) (by kernel_rfl) (by simp) ?_
        refine AllReadyH.cons (o := ?_) ?_ (fun K hK => ?_) AllReadyH.nil
        rotate_left 1
        · (simp only [List.getElem?_toArray, List.getElem?_cons_succ, List.getElem?_cons_zero]; first | done | rfl)
        go_simp
        go_at_call 29
        refine (wbyte_va HWR.out Vr.out (by simp [encText_len]; omega)).mono ?_
        rintro e D183 ⟨rfl, hwr, hwt⟩
        first | (refine hK.out _ _ ?_ (fun hq9 => ?_)) | (go_wp2_with fail; refine hK.out _ _ ?_ (fun hq9 => ?_))
        · exact HSALL.out _ (HBB.out.trans hwt)
        clear hK K
        (try simp only [Act.put, List.setIfInBounds_toArray, List.set_cons_zero, List.set_cons_succ])
        clear hq8
        replace Vr := Lib.hid (Vr.out.wrote hwt)
        replace Vp := Lib.hid (Vp.out.wrote hwt)
        replace Vq := Lib.hid (Vq.out.wrote hwt)
        replace HBB := Lib.hid (HBB.out.trans hwt)
        replace HWR := Lib.hid hwr
        clear hwr hwt
        refine wpAnyH_done (by kernel_rfl) ?_ _
        go_wp2_with fail
        first | go_end0 | refine bodyPost_ret (results_none rfl _ _ _) rfl ?_
        exact ⟨rfl, by rw [HE.out]; simpa only [List.append_assoc, List.map_cons, List.map_nil] using HWR.out, HWT0.out.trans HBB.out⟩
    · skip
      go_simp
      refine hK.out _ _ ?_ (fun hq2 => ?_)
      · exact HSALL.out _ (HBB.out.trans (wrote_below HWR.out.lt (balloc _ _)))
      clear hK K
      (try simp only [Act.put, List.setIfInBounds_toArray, List.set_cons_zero, List.set_cons_succ])
      clear hq1
      generalize hD : World.alloc D162 _ = D184 at hq2 ⊢
      have hb : Below D162.heap.size D162 D184 := by rw [← hD]; exact balloc _ _
      have Vq := Lib.hid (va_one br 3 HWR.out); rw [hD] at Vq
      clear hD
      have ht := wrote_below HWR.out.lt hb
      replace Vr := Lib.hid (Vr.out.wrote ht)
      replace HBB := Lib.hid (HBB.out.trans ht)
      replace HWR := Lib.hid (HWR.out.below hb)
      clear hb ht
      generalize D162.heap.size = q at *
      refine wpAnyH_ready (rs := [5]) (by kernel_rfl) (by simp) ?_
      refine AllReadyH.cons (o := ?_) ?_ (fun K hK => ?_) AllReadyH.nil
      rotate_left 1
      · (simp only [List.getElem?_toArray, List.getElem?_cons_succ, List.getElem?_cons_zero]; first | done | rfl)
      go_simp
      refine hK.out _ _ ?_ (fun hq3 => ?_)
      · exact HSALL.out _ (HBB.out.trans (wrote_below HWR.out.lt (balloc _ _)))
      clear hK K
      (try simp only [Act.put, List.setIfInBounds_toArray, List.set_cons_zero, List.set_cons_succ])
      clear hq2
      generalize hD : World.alloc D184 _ = D185 at hq3 ⊢
      have hb : Below D184.heap.size D184 D185 := by rw [← hD]; exact balloc _ _
      have Vp := Lib.hid (va_two kd tn 3 HWR.out); rw [hD] at Vp
      clear hD
      have ht := wrote_below HWR.out.lt hb
      replace Vr := Lib.hid (Vr.out.wrote ht)
      replace Vq := Lib.hid (Vq.out.wrote ht)
      replace HBB := Lib.hid (HBB.out.trans ht)
      replace HWR := Lib.hid (HWR.out.below hb)
      clear hb ht
      generalize D184.heap.size = p at *
      refine wpAnyH_ready (rs := [6]) (by kernel_rfl) (by simp) ?_
      refine AllReadyH.cons (o := ?_) ?_ (fun K hK => ?_) AllReadyH.nil
      rotate_left 1
      · (simp only [List.getElem?_toArray, List.getElem?_cons_succ, List.getElem?_cons_zero]; first | done | rfl)
      go_simp
      go_at_call 29
      refine (wbyte_va HWR.out Vp.out (by simp; omega)).mono ?_
      rintro e D186 ⟨rfl, hwr, hwt⟩
      first | (refine hK.out _ _ ?_ (fun hq4 => ?_)) | (go_wp2_with fail; refine hK.out _ _ ?_ (fun hq4 => ?_))
      · exact HSALL.out _ (HBB.out.trans hwt)
      clear hK K
      (try simp only [Act.put, List.setIfInBounds_toArray, List.set_cons_zero, List.set_cons_succ])
      clear hq3
      replace Vr := Lib.hid (Vr.out.wrote hwt)
      replace Vq := Lib.hid (Vq.out.wrote hwt)
      replace Vp := Lib.hid (Vp.out.wrote hwt)
      replace HBB := Lib.hid (HBB.out.trans hwt)
      replace HWR := Lib.hid hwr
      clear hwr hwt
      refine wpAnyH_ready (rs := [9]) (by kernel_rfl) (by simp) ?_
      refine AllReadyH.cons (o := ?_) ?_ (fun K hK => ?_) AllReadyH.nil
      rotate_left 1
      · (simp only [List.getElem?_toArray, List.getElem?_cons_succ, List.getElem?_cons_zero]; first | done | rfl)
      go_simp
      go_at_call 31
      refine (wtext_any b _ who _ HWR.out (by simp; omega)).mono ?_
      rintro e D187 ⟨rfl, hwr, hwt⟩
      first | (refine hK.out _ _ ?_ (fun hq5 => ?_)) | (go_wp2_with fail; refine hK.out _ _ ?_ (fun hq5 => ?_))
      · exact HSALL.out _ (HBB.out.trans hwt)
      clear hK K
      (try simp only [Act.put, List.setIfInBounds_toArray, List.set_cons_zero, List.set_cons_succ])
      clear hq4
      replace Vr := Lib.hid (Vr.out.wrote hwt)
      replace Vq := Lib.hid (Vq.out.wrote hwt)
      replace Vp := Lib.hid (Vp.out.wrote hwt)
      replace HBB := Lib.hid (HBB.out.trans hwt)
      replace HWR := Lib.hid hwr
      clear hwr hwt
      refine wpAnyH_ready (rs := [13]) (by kernel_rfl) (by simp) ?_
      refine AllReadyH.cons (o := ?_) ?_ (fun K hK => ?_) AllReadyH.nil
      rotate_left 1
      · (simp only [List.getElem?_toArray, List.getElem?_cons_succ, List.getElem?_cons_zero]; first | done | rfl)
      go_simp
      go_at_call 29
      refine (wbyte_va HWR.out Vq.out (by simp [encText_len]; omega)).mono ?_
      rintro e D188 ⟨rfl, hwr, hwt⟩
      first | (refine hK.out _ _ ?_ (fun hq6 => ?_)) | (go_wp2_with fail; refine hK.out _ _ ?_ (fun hq6 => ?_))
      · exact HSALL.out _ (HBB.out.trans hwt)
      clear hK K
      (try simp only [Act.put, List.setIfInBounds_toArray, List.set_cons_zero, List.set_cons_succ])
      clear hq5
      replace Vr := Lib.hid (Vr.out.wrote hwt)
      replace Vq := Lib.hid (Vq.out.wrote hwt)
      replace Vp := Lib.hid (Vp.out.wrote hwt)
      replace HBB := Lib.hid (HBB.out.trans hwt)
      replace HWR := Lib.hid hwr
      clear hwr hwt
      refine wpAnyH_ready (rs := [16]) (by kernel_rfl) (by simp) ?_
      refine AllReadyH.cons (o := ?_) ?_ (fun K hK => ?_) AllReadyH.nil
      rotate_left 1
      · (simp only [List.getElem?_toArray, List.getElem?_cons_succ, List.getElem?_cons_zero]; first | done | rfl)
      go_simp
      go_at_call 14
      refine (wfilter_any b _ sc c0 cc cs _ w0 HWR.out HCL.out (HBL.out _ (HWT0.out.trans HBB.out)) hle HNUM.out (by simp [encText_len]; omega) hlm).mono ?_
      rintro e D189 ⟨rfl, hwr, hwt⟩
      first | (refine hK.out _ _ ?_ (fun hq7 => ?_)) | (go_wp2_with fail; refine hK.out _ _ ?_ (fun hq7 => ?_))
      · exact HSALL.out _ (HBB.out.trans hwt)
      clear hK K
      (try simp only [Act.put, List.setIfInBounds_toArray, List.set_cons_zero, List.set_cons_succ])
      clear hq6
      replace Vr := Lib.hid (Vr.out.wrote hwt)
      replace Vq := Lib.hid (Vq.out.wrote hwt)
      replace Vp := Lib.hid (Vp.out.wrote hwt)
      replace HBB := Lib.hid (HBB.out.trans hwt)
      replace HWR := Lib.hid hwr
      clear hwr hwt
      refine wpAnyH_ready (rs := [19]) (by kernel_rfl) (by simp) ?_
      refine AllReadyH.cons (o := ?_) ?_ (fun K hK => ?_) AllReadyH.nil
      rotate_left 1
      · (simp only [List.getElem?_toArray, List.getElem?_cons_succ, List.getElem?_cons_zero]; first | done | rfl)
      go_simp
      go_at_call 31
      refine (wtext_any b _ nm _ HWR.out (by simp [encText_len]; omega)).mono ?_
      rintro e D190 ⟨rfl, hwr, hwt⟩
      first | (refine hK.out _ _ ?_ (fun hq8 => ?_)) | (go_wp2_with fail; refine hK.out _ _ ?_ (fun hq8 => ?_))
      · exact HSALL.out _ (HBB.out.trans hwt)
      clear hK K
      (try simp only [Act.put, List.setIfInBounds_toArray, List.set_cons_zero, List.set_cons_succ])
      clear hq7
      replace Vr := Lib.hid (Vr.out.wrote hwt)
      replace Vq := Lib.hid (Vq.out.wrote hwt)
      replace Vp := Lib.hid (Vp.out.wrote hwt)
      replace HBB := Lib.hid (HBB.out.trans hwt)
      replace HWR := Lib.hid hwr
      clear hwr hwt
      refine wpAnyH_ready (rs := [23]) (by kernel_rfl) (by simp) ?_
      refine AllReadyH.cons (o := ?_) ?_ (fun K hK => ?_) AllReadyH.nil
      rotate_left 1
      · (simp only [List.getElem?_toArray, List.getElem?_cons_succ, List.getElem?_cons_zero]; first | done | rfl)
      go_simp
      go_at_call 29
      refine (wbyte_va HWR.out Vr.out (by simp [encText_len]; omega)).mono ?_
      rintro e D191 ⟨rfl, hwr, hwt⟩
      first | (refine hK.out _ _ ?_ (fun hq9 => ?_)) | (go_wp2_with fail; refine hK.out _ _ ?_ (fun hq9 => ?_))
      · exact HSALL.out _ (HBB.out.trans hwt)
      clear hK K
      (try simp only [Act.put, List.setIfInBounds_toArray, List.set_cons_zero, List.set_cons_succ])
      clear hq8
      replace Vr := Lib.hid (Vr.out.wrote hwt)
      replace Vq := Lib.hid (Vq.out.wrote hwt)
      replace Vp := Lib.hid (Vp.out.wrote hwt)
      replace HBB := Lib.hid (HBB.out.trans hwt)
      replace HWR := Lib.hid hwr
      clear hwr hwt
      refine wpAnyH_done (by kernel_rfl) ?_ _
      go_wp2_with fail
      first | go_end0 | refine bodyPost_ret (results_none rfl _ _ _) rfl ?_
      exact ⟨rfl, by rw [HE.out]; simpa only [List.append_assoc, List.map_cons, List.map_nil] using HWR.out, HWT0.out.trans HBB.out⟩
end Go.Proofs.Ytpbdgbejcdncgaa.Wire
end
