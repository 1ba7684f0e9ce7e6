/- A WRITER OF BYTES: a vararg's numbers; a filter, an event, a rule. -/
import Derived.Test.YtpbdgbejcdncgaaWr4
import Derived.Test.YtpbdgbejcdncgaaFil
import Derived.Deep.DeepCutAuto
import Derived.Deep.LoopGhost
import Derived.Deep.RegionHeld3
namespace Go.Proofs.Ytpbdgbejcdncgaa.Wire
open Go.RowKit Flt Go.Proofs.Ytpbdgbejcdncgaa.Val Go.Lib
attribute [local go_sem] run_store_flt
/-- a vararg's numbers in a block that a writer leaves alone -/
structure VA (W : World) (b p : Nat) (ns : List Int) : Prop where
  free : Free W b p
  cells : ∀ i (hi : i < ns.length), W.cell? ((⟨p, 0, none⟩ : Addr).add i) = some (.int .i64 ns[i])
theorem VA.wrote {W W2 : World} {b p : Nat} {ns : List Int} (h : VA W b p ns) (hw : Wrote b W W2) : VA W2 b p ns := by
  refine ⟨(hw.free p h.free).1, fun i hi => ?_⟩
  have hadd : ∀ i, (⟨p, 0, none⟩ : Addr).add i = ⟨p, i, none⟩ := fun i => by unfold Addr.add; split <;> simp_all
  have := h.cells i hi
  rw [hadd] at this ⊢
  exact (hw.cell h.free i).trans this
theorem va_one {W : World} {b : Nat} {s : List UInt8} (n : Int) (T : TypeId) (h : Wr W b s) : VA (W.alloc (.cells #[.int .i64 n] T)) b W.heap.size [n] := by
  refine ⟨h.free_new (balloc _ _) (Nat.le_refl _) (by simp), fun i hi => ?_⟩
  have : i = 0 := by simpa using hi
  subst this
  exact World.cell?_alloc_at _ _ _ _ rfl
theorem va_two {W : World} {b : Nat} {s : List UInt8} (n m : Int) (T : TypeId) (h : Wr W b s) : VA (W.alloc (.cells #[.int .i64 n, .int .i64 m] T)) b W.heap.size [n, m] := by
  refine ⟨h.free_new (balloc _ _) (Nat.le_refl _) (by simp), fun i hi => ?_⟩
  have hadd : (⟨W.heap.size, 0, none⟩ : Addr).add i = ⟨W.heap.size, i, none⟩ := by unfold Addr.add; split <;> simp_all
  rw [hadd, World.cell?_alloc_at _ _ _ _ rfl]
  match i, hi with
  | 0, _ => rfl
  | 1, _ => rfl
theorem wbyte_va {b : Nat} {s : List UInt8} {p : Nat} {ns : List Int} {w : World} (h : Wr w b s) (hv : VA w b p ns) (hl : s.length + ns.length ≤ 1000000) :
    Calls Try.prog 29 #[.pointer (some ⟨b, 0, none⟩), .slice (some ⟨p, 0, none⟩) ns.length ns.length] w fun e w' => e = .returned (.pointer (some ⟨b, 0, none⟩)) ∧ Wr w' b (s ++ ns.map byteOf) ∧ Wrote b w w' :=
  wbyte_any b s ⟨p, 0, none⟩ ns ns.length w h hv.free hv.cells hl
theorem wr_drew {W : World} {b : Nat} {s : List UInt8} (h : Wr W b s) : Wr W.drew b s := by obtain ⟨v, h⟩ := h; exact ⟨v, h.drew⟩
def encCond (c : C) : List UInt8 := encText c.name ++ [byteOf c.op] ++ encVal c.val.kind c.val.int c.val.num c.val.text c.val.yes
def encConds (l : List C) : List UInt8 := l.flatMap encCond
def encFilter (sf : List UInt8) (l : List C) : List UInt8 := encText sf ++ [byteOf l.length] ++ encConds l
theorem encConds_succ (l : List C) (k : Nat) (h : k < l.length) : encConds (l.take (k + 1)) = encConds (l.take k) ++ encCond l[k] := by
  unfold encConds
  rw [List.take_add_one, List.getElem?_eq_getElem h, List.flatMap_append]
  simp
theorem encConds_le (l : List C) (k : Nat) : (encConds (l.take k)).length ≤ (encConds l).length := by
  have : encConds l = encConds (l.take k) ++ encConds (l.drop k) := by
    unfold encConds
    rw [← List.flatMap_append, List.take_append_drop]
  rw [this, List.length_append]; omega
set_option maxRecDepth 20000 in
set_option maxHeartbeats 4000000 in
theorem wfilter_any (b : Nat) (s sf : List UInt8) (a0 : Option Addr) (cap : Nat) (l : List C) (w w0 : World) (h : Wr w b s) (hcl : Conds w0 a0 l) (hb0 : Below w0.heap.size w0 w) (hle : w0.heap.size ≤ b) (hnum : ∀ c ∈ l, c.val.num < 18446744073709551616) (hl : s.length + (encFilter sf l).length ≤ 1000000) (hlm : l.length ≤ 1000000) :
    Calls Try.prog 14 #[.pointer (some ⟨b, 0, none⟩), ev sf a0 l.length cap] w fun e w' => e = .returned (.pointer (some ⟨b, 0, none⟩)) ∧ Wr w' b (s ++ encFilter sf l) ∧ Wrote b w w' := by
  have hlen : s.length + sf.length + 2 + (encConds l).length ≤ 1000000 := by
    unfold encFilter at hl
    simp only [List.length_append, encText_len, List.length_singleton] at hl
    omega
  clear hl
  have hcn : ∀ W, Wrote b w W → Conds W a0 l := fun W hb => hcl.below (hb0.trans (hb.below h hle))
  have HWR := Lib.hid h; have HH := Lib.hid h
  have HCN := Lib.hid hcn; have HNUM := Lib.hid hnum
  clear h hcl hb0 hnum hle hcn
  go_enter Try.func14, Try.ntmps14
  go_upto_region 1 with fail
  replace HWR := Lib.hid (HWR.out.below (balloc w (.cells #[.string ⟨sf.toArray⟩, .slice a0 l.length cap] 26)))
  have hfr := HH.out.free_new (balloc w (.cells #[.string ⟨sf.toArray⟩, .slice a0 l.length cap] 26)) (Nat.le_refl _) (by simp)
  have hx0 := box2_new w sf a0 l.length cap 26
  have hwt0 := wrote_below HH.out.lt (balloc w (.cells #[.string ⟨sf.toArray⟩, .slice a0 l.length cap] 26))
  generalize w.alloc _ = W0 at *
  have hsall : ∀ W, Wrote b W0 W → (fun w' => w'.cell? ⟨w.heap.size, 0, none⟩ = some (.string ⟨sf.toArray⟩) ∧ w'.cell? ⟨w.heap.size, 1, none⟩ = some (.slice a0 l.length cap)) W := fun W hb => ⟨(hb.cell hfr 0).trans hx0.1, (hb.cell hfr 1).trans hx0.2⟩
  have HSALL := Lib.hid hsall; have HWT0 := Lib.hid hwt0; have HFR := Lib.hid hfr
  clear hsall hwt0 hfr hx0
  go_cut [15] (fun va wx => Hid (Wr wx b (s ++ encText sf ++ [byteOf l.length])) ∧ Hid (Wrote b W0 wx))
  case first =>
    clear HCN HNUM HH
    refine wp_region_held_drew (S := (fun w' => w'.cell? ⟨w.heap.size, 0, none⟩ = some (.string ⟨sf.toArray⟩) ∧ w'.cell? ⟨w.heap.size, 1, none⟩ = some (.slice a0 l.length cap))) (by kernel_rfl) ?_ (fun hq0 => ?_)
    · exact HSALL.out _ (wrote_drew b W0)
    have HBB : Hid (Wrote b W0 W0.drew) := Lib.hid (wrote_drew b W0)
    replace HWR := Lib.hid (wr_drew HWR.out)
    generalize W0.drew = D0 at *
    (refine wpAnyH_take (i := 0) (oi := ?_) (v := ?_) ?_ (by kernel_rfl) (by kernel_rfl) (by kernel_rfl) ?_ (Or.inl ⟨?_, ?_⟩) (by assumption) ?_; rotate_left 2; (· (simp only [List.getElem?_toArray, List.getElem?_cons_zero]; first | done | rfl)); (· exact (fun _ _ _ h => h)); (· rfl); (· (intro w hSw; (try dsimp only at hSw); go_simp; (try with_reducible rfl))))
    (try simp only [Act.put, List.setIfInBounds_toArray, List.set_cons_zero, List.set_cons_succ])
    (refine wpAnyH_take (i := 1) (oi := ?_) (v := ?_) ?_ (by kernel_rfl) (by kernel_rfl) (by kernel_rfl) ?_ (Or.inl ⟨?_, ?_⟩) (by assumption) ?_; rotate_left 2; (· (simp only [List.getElem?_toArray, List.getElem?_cons_succ, List.getElem?_cons_zero]; first | done | rfl)); (· exact (fun _ _ _ h => h)); (· rfl); (· (intro w hSw; (try dsimp only at hSw); go_simp; (try with_reducible rfl))))
    (try simp only [Act.put, List.setIfInBounds_toArray, List.set_cons_zero, List.set_cons_succ])
    (refine wpAnyH_take (i := 2) (oi := ?_) (v := ?_) ?_ (by kernel_rfl) (by kernel_rfl) (by kernel_rfl) ?_ (Or.inl ⟨?_, ?_⟩) (by assumption) ?_; rotate_left 2; (· (simp only [List.getElem?_toArray, List.getElem?_cons_succ, List.getElem?_cons_zero]; first | done | rfl)); (· exact (fun _ _ _ h => h)); (· rfl); (· (intro w hSw; (try dsimp only at hSw); go_simp; (try with_reducible rfl))))
    (try simp only [Act.put, List.setIfInBounds_toArray, List.set_cons_zero, List.set_cons_succ])
    (refine wpAnyH_take (i := 4) (oi := ?_) (v := ?_) ?_ (by kernel_rfl) (by kernel_rfl) (by kernel_rfl) ?_ (Or.inl ⟨?_, ?_⟩) (by assumption) ?_; rotate_left 2; (· (simp only [List.getElem?_toArray, List.getElem?_cons_succ, List.getElem?_cons_zero]; first | done | rfl)); (· exact (fun _ _ _ h => h)); (· rfl); (· (intro w hSw; (try dsimp only at hSw); go_simp; (try with_reducible rfl))))
    (try simp only [Act.put, List.setIfInBounds_toArray, List.set_cons_zero, List.set_cons_succ])
    (refine wpAnyH_take (i := 5) (oi := ?_) (v := ?_) ?_ (by kernel_rfl) (by kernel_rfl) (by kernel_rfl) ?_ (Or.inl ⟨?_, ?_⟩) (by assumption) ?_; rotate_left 2; (· (simp only [List.getElem?_toArray, List.getElem?_cons_succ, List.getElem?_cons_zero]; first | done | rfl)); (· exact (fun _ _ _ h => h)); (· rfl); (· (intro w hSw; (try dsimp only at hSw); go_simp; (try with_reducible rfl))))
    (try simp only [Act.put, List.setIfInBounds_toArray, List.set_cons_zero, List.set_cons_succ])
    (refine wpAnyH_take (i := 6) (oi := ?_) (v := ?_) ?_ (by kernel_rfl) (by kernel_rfl) (by kernel_rfl) ?_ (Or.inl ⟨?_, ?_⟩) (by assumption) ?_; rotate_left 2; (· (simp only [List.getElem?_toArray, List.getElem?_cons_succ, List.getElem?_cons_zero]; first | done | rfl)); (· exact (fun _ _ _ h => h)); (· rfl); (· (intro w hSw; (try dsimp only at hSw); go_simp; (try with_reducible rfl))))
    (try simp only [Act.put, List.setIfInBounds_toArray, List.set_cons_zero, List.set_cons_succ])
    refine wpAnyH_ready (rs := [3, 7]) (by kernel_rfl) (by simp) ?_
    refine AllReadyH.cons (o := ?_) ?_ (fun K hK => ?_) ?_
    rotate_left 1
    · (simp only [List.getElem?_toArray, List.getElem?_cons_succ, List.getElem?_cons_zero]; first | done | rfl)
    rotate_left 1
    refine AllReadyH.cons (o := ?_) ?_ (fun K hK => ?_) AllReadyH.nil
    rotate_left 1
    · (simp only [List.getElem?_toArray, List.getElem?_cons_succ, List.getElem?_cons_zero]; first | done | rfl)
    rotate_left 1
    · skip
      go_simp
      go_at_call 31
      refine (wtext_any b _ sf _ HWR.out (by omega)).mono ?_
      rintro e D1 ⟨rfl, hwr, hwt⟩
      first | (refine hK.out _ _ ?_ (fun hq1 => ?_)) | (go_wp2_with fail; refine hK.out _ _ ?_ (fun hq1 => ?_))
      · exact HSALL.out _ (HBB.out.trans hwt)
      clear hK K
      (try simp only [Act.put, List.setIfInBounds_toArray, List.set_cons_zero, List.set_cons_succ])
      clear hq0
      replace HBB := Lib.hid (HBB.out.trans hwt)
      replace HWR := Lib.hid hwr
      clear hwr hwt
      refine wpAnyH_ready (rs := [7]) (by kernel_rfl) (by simp) ?_
      refine AllReadyH.cons (o := ?_) ?_ (fun K hK => ?_) AllReadyH.nil
      rotate_left 1
      · (simp only [List.getElem?_toArray, List.getElem?_cons_succ, List.getElem?_cons_zero]; first | done | rfl)
      go_simp
      refine hK.out _ _ ?_ (fun hq2 => ?_)
      · exact HSALL.out _ (HBB.out.trans (wrote_below HWR.out.lt (balloc _ _)))
      clear hK K
      (try simp only [Act.put, List.setIfInBounds_toArray, List.set_cons_zero, List.set_cons_succ])
      clear hq1
      generalize hD : World.alloc D1 _ = D2 at hq2 ⊢
      have hb : Below D1.heap.size D1 D2 := by rw [← hD]; exact balloc _ _
      have Vp := Lib.hid (va_one (l.length : Int) 3 HWR.out); rw [hD] at Vp
      clear hD
      have ht := wrote_below HWR.out.lt hb
      replace HBB := Lib.hid (HBB.out.trans ht)
      replace HWR := Lib.hid (HWR.out.below hb)
      clear hb ht
      generalize D1.heap.size = p at *
      refine wpAnyH_ready (rs := [8]) (by kernel_rfl) (by simp) ?_
      refine AllReadyH.cons (o := ?_) ?_ (fun K hK => ?_) AllReadyH.nil
      rotate_left 1
      · (simp only [List.getElem?_toArray, List.getElem?_cons_succ, List.getElem?_cons_zero]; first | done | rfl)
      go_simp
      go_at_call 29
      refine (wbyte_va HWR.out Vp.out (by simp [encText_len]; omega)).mono ?_
      rintro e D3 ⟨rfl, hwr, hwt⟩
      first | (refine hK.out _ _ ?_ (fun hq3 => ?_)) | (go_wp2_with fail; refine hK.out _ _ ?_ (fun hq3 => ?_))
      · exact HSALL.out _ (HBB.out.trans hwt)
      clear hK K
      (try simp only [Act.put, List.setIfInBounds_toArray, List.set_cons_zero, List.set_cons_succ])
      clear hq2
      replace Vp := Lib.hid (Vp.out.wrote hwt)
      replace HBB := Lib.hid (HBB.out.trans hwt)
      replace HWR := Lib.hid hwr
      clear hwr hwt
      refine wpAnyH_done (by kernel_rfl) ?_ _
      go_wp2_with fail
      go_meet
      exact ⟨HWR, HBB⟩
    · skip
      go_simp
      refine hK.out _ _ ?_ (fun hq1 => ?_)
      · exact HSALL.out _ (HBB.out.trans (wrote_below HWR.out.lt (balloc _ _)))
      clear hK K
      (try simp only [Act.put, List.setIfInBounds_toArray, List.set_cons_zero, List.set_cons_succ])
      clear hq0
      generalize hD : World.alloc D0 _ = D4 at hq1 ⊢
      have hb : Below D0.heap.size D0 D4 := by rw [← hD]; exact balloc _ _
      have Vp := Lib.hid (va_one (l.length : Int) 3 HWR.out); rw [hD] at Vp
      clear hD
      have ht := wrote_below HWR.out.lt hb
      replace HBB := Lib.hid (HBB.out.trans ht)
      replace HWR := Lib.hid (HWR.out.below hb)
      clear hb ht
      generalize D0.heap.size = p at *
      refine wpAnyH_ready (rs := [3]) (by kernel_rfl) (by simp) ?_
      refine AllReadyH.cons (o := ?_) ?_ (fun K hK => ?_) AllReadyH.nil
      rotate_left 1
      · (simp only [List.getElem?_toArray, List.getElem?_cons_succ, List.getElem?_cons_zero]; first | done | rfl)
      go_simp
      go_at_call 31
      refine (wtext_any b _ sf _ HWR.out (by omega)).mono ?_
      rintro e D5 ⟨rfl, hwr, hwt⟩
      first | (refine hK.out _ _ ?_ (fun hq2 => ?_)) | (go_wp2_with fail; refine hK.out _ _ ?_ (fun hq2 => ?_))
      · exact HSALL.out _ (HBB.out.trans hwt)
      clear hK K
      (try simp only [Act.put, List.setIfInBounds_toArray, List.set_cons_zero, List.set_cons_succ])
      clear hq1
      replace Vp := Lib.hid (Vp.out.wrote hwt)
      replace HBB := Lib.hid (HBB.out.trans hwt)
      replace HWR := Lib.hid hwr
      clear hwr hwt
      refine wpAnyH_ready (rs := [8]) (by kernel_rfl) (by simp) ?_
      refine AllReadyH.cons (o := ?_) ?_ (fun K hK => ?_) AllReadyH.nil
      rotate_left 1
      · (simp only [List.getElem?_toArray, List.getElem?_cons_succ, List.getElem?_cons_zero]; first | done | rfl)
      go_simp
      go_at_call 29
      refine (wbyte_va HWR.out Vp.out (by simp [encText_len]; omega)).mono ?_
      rintro e D6 ⟨rfl, hwr, hwt⟩
      first | (refine hK.out _ _ ?_ (fun hq3 => ?_)) | (go_wp2_with fail; refine hK.out _ _ ?_ (fun hq3 => ?_))
      · exact HSALL.out _ (HBB.out.trans hwt)
      clear hK K
      (try simp only [Act.put, List.setIfInBounds_toArray, List.set_cons_zero, List.set_cons_succ])
      clear hq2
      replace Vp := Lib.hid (Vp.out.wrote hwt)
      replace HBB := Lib.hid (HBB.out.trans hwt)
      replace HWR := Lib.hid hwr
      clear hwr hwt
      refine wpAnyH_done (by kernel_rfl) ?_ _
      go_wp2_with fail
      go_meet
      exact ⟨HWR, HBB⟩
  case rest =>
    obtain ⟨HW1, HT1⟩ := hcut
    obtain ⟨x0, x1⟩ := HSALL.out _ HT1.out
    have HT2 := Lib.hid (HWT0.out.trans HT1.out)
    clear HWR HSALL HFR
    go_wp2_with fail
    go_loopw [19] (fun vi wr => ∃ k : Nat, k ≤ l.length ∧ vi = .int .i64 k ∧ Wr wr b (s ++ encText sf ++ [byteOf l.length] ++ encConds (l.take k)) ∧ Wrote b w wr) (fun vi _ => l.length - (RowKit.intOf vi).toNat)
    case atStart => exact ⟨0, Nat.zero_le _, rfl, by simpa [encConds] using HW1.out, HT2.out⟩
    case round =>
      obtain ⟨k, hk, rfl, hwr, hwt⟩ := hrel
      by_cases hlt : k < l.length
      · have i1 : (k : Int) < (l.length : Int) := by omega
        have i0 : (0 : Int) ≤ (k : Int) := by omega
        obtain ⟨a, rfl, v0, v1, v2, v3, v4, v5, v6⟩ := (HCN.out _ hwt) k hlt
        have hnm := HNUM.out _ (List.getElem_mem hlt)
        have hsu := encConds_succ l k hlt
        have hle1 := encConds_le l (k + 1)
        have hla : (s ++ encText sf ++ [byteOf l.length] ++ encConds (l.take k)).length = s.length + sf.length + 2 + (encConds (l.take k)).length := by simp [encText_len]; omega
        rw [hsu, List.length_append] at hle1
        generalize l[k] = c at *
        generalize hS : s ++ encText sf ++ [byteOf l.length] ++ encConds (l.take k) = S at *
        have HSU := Lib.hid hsu; have HS := Lib.hid hS; have HWT := Lib.hid hwt; have HWQ := Lib.hid hwr
        obtain ⟨nm, op, ⟨k1, n1, x1', t1, y1⟩⟩ := c
        dsimp only at hnm v0 v1 v2 v3 v4 v5 v6
        have hlc : S.length + nm.length + 2 + (encVal k1 n1 x1' t1 y1).length ≤ 1000000 := by
          unfold encCond at hle1
          simp only [List.length_append, encText_len, List.length_singleton] at hle1
          omega
        clear hsu hS hwt hwr hle1 hla
        go_upto_region 5 with fail
        have hcat := cat_new wr ⟨nm, op, ⟨k1, n1, x1', t1, y1⟩⟩ 72
        dsimp only at hcat
        have hal := balloc wr (.cells #[.string ⟨nm.toArray⟩, .int .i64 op, .int .i64 k1, .int .i64 n1, .float .f64 x1', .string ⟨t1.toArray⟩, .bool y1] 72)
        have hsz : wr.heap.size < (wr.alloc (.cells #[.string ⟨nm.toArray⟩, .int .i64 op, .int .i64 k1, .int .i64 n1, .float .f64 x1', .string ⟨t1.toArray⟩, .bool y1] 72)).heap.size := by simp
        generalize World.alloc wr _ = W1 at *
        have hfr := HWQ.out.free_new hal (Nat.le_refl _) hsz
        have hwt1 := wrote_below HWQ.out.lt hal
        have hsall : ∀ W, Wrote b W1 W → (fun w' => w'.cell? ⟨wr.heap.size, 0, none⟩ = some (.string ⟨nm.toArray⟩) ∧ w'.cell? ⟨wr.heap.size, 1, none⟩ = some (.int .i64 op) ∧ w'.cell? ⟨wr.heap.size, 2, none⟩ = some (.int .i64 k1) ∧ w'.cell? ⟨wr.heap.size, 3, none⟩ = some (.int .i64 n1) ∧ w'.cell? ⟨wr.heap.size, 4, none⟩ = some (.float .f64 x1') ∧ w'.cell? ⟨wr.heap.size, 5, none⟩ = some (.string ⟨t1.toArray⟩) ∧ w'.cell? ⟨wr.heap.size, 6, none⟩ = some (.bool y1)) W := fun W hb => ⟨(hb.cell hfr 0).trans hcat.1, (hb.cell hfr 1).trans hcat.2.1, (hb.cell hfr 2).trans hcat.2.2.1, (hb.cell hfr 3).trans hcat.2.2.2.1, (hb.cell hfr 4).trans hcat.2.2.2.2.1, (hb.cell hfr 5).trans hcat.2.2.2.2.2.1, (hb.cell hfr 6).trans hcat.2.2.2.2.2.2⟩
        have HSALL := Lib.hid hsall; have HWT1 := Lib.hid (HWT.out.trans hwt1); have HWR := Lib.hid (HWQ.out.below hal)
        clear hsall hwt1 hfr hcat hal hsz v0 v1 v2 v3 v4 v5 v6 HWQ HWT
        refine wp_region_held_drew (S := (fun w' => w'.cell? ⟨wr.heap.size, 0, none⟩ = some (.string ⟨nm.toArray⟩) ∧ w'.cell? ⟨wr.heap.size, 1, none⟩ = some (.int .i64 op) ∧ w'.cell? ⟨wr.heap.size, 2, none⟩ = some (.int .i64 k1) ∧ w'.cell? ⟨wr.heap.size, 3, none⟩ = some (.int .i64 n1) ∧ w'.cell? ⟨wr.heap.size, 4, none⟩ = some (.float .f64 x1') ∧ w'.cell? ⟨wr.heap.size, 5, none⟩ = some (.string ⟨t1.toArray⟩) ∧ w'.cell? ⟨wr.heap.size, 6, none⟩ = some (.bool y1))) (by kernel_rfl) ?_ (fun hq0 => ?_)
        · exact HSALL.out _ (wrote_drew b W1)
        have HBB : Hid (Wrote b W1 W1.drew) := Lib.hid (wrote_drew b W1)
        replace HWR := Lib.hid (wr_drew HWR.out)
        generalize W1.drew = D0 at *
        (refine wpAnyH_take (i := 0) (oi := ?_) (v := ?_) ?_ (by kernel_rfl) (by kernel_rfl) (by kernel_rfl) ?_ (Or.inl ⟨?_, ?_⟩) (by assumption) ?_; rotate_left 2; (· (simp only [List.getElem?_toArray, List.getElem?_cons_zero]; first | done | rfl)); (· exact (fun _ _ _ h => h)); (· rfl); (· (intro w hSw; (try dsimp only at hSw); go_simp; (try with_reducible rfl))))
        (try simp only [Act.put, List.setIfInBounds_toArray, List.set_cons_zero, List.set_cons_succ])
        (refine wpAnyH_take (i := 1) (oi := ?_) (v := ?_) ?_ (by kernel_rfl) (by kernel_rfl) (by kernel_rfl) ?_ (Or.inl ⟨?_, ?_⟩) (by assumption) ?_; rotate_left 2; (· (simp only [List.getElem?_toArray, List.getElem?_cons_succ, List.getElem?_cons_zero]; first | done | rfl)); (· exact (fun _ _ _ h => h)); (· rfl); (· (intro w hSw; (try dsimp only at hSw); go_simp; (try with_reducible rfl))))
        (try simp only [Act.put, List.setIfInBounds_toArray, List.set_cons_zero, List.set_cons_succ])
        (refine wpAnyH_take (i := 2) (oi := ?_) (v := ?_) ?_ (by kernel_rfl) (by kernel_rfl) (by kernel_rfl) ?_ (Or.inl ⟨?_, ?_⟩) (by assumption) ?_; rotate_left 2; (· (simp only [List.getElem?_toArray, List.getElem?_cons_succ, List.getElem?_cons_zero]; first | done | rfl)); (· exact (fun _ _ _ h => h)); (· rfl); (· (intro w hSw; (try dsimp only at hSw); go_simp; (try with_reducible rfl))))
        (try simp only [Act.put, List.setIfInBounds_toArray, List.set_cons_zero, List.set_cons_succ])
        (refine wpAnyH_take (i := 4) (oi := ?_) (v := ?_) ?_ (by kernel_rfl) (by kernel_rfl) (by kernel_rfl) ?_ (Or.inl ⟨?_, ?_⟩) (by assumption) ?_; rotate_left 2; (· (simp only [List.getElem?_toArray, List.getElem?_cons_succ, List.getElem?_cons_zero]; first | done | rfl)); (· exact (fun _ _ _ h => h)); (· rfl); (· (intro w hSw; (try dsimp only at hSw); go_simp; (try with_reducible rfl))))
        (try simp only [Act.put, List.setIfInBounds_toArray, List.set_cons_zero, List.set_cons_succ])
        (refine wpAnyH_take (i := 5) (oi := ?_) (v := ?_) ?_ (by kernel_rfl) (by kernel_rfl) (by kernel_rfl) ?_ (Or.inl ⟨?_, ?_⟩) (by assumption) ?_; rotate_left 2; (· (simp only [List.getElem?_toArray, List.getElem?_cons_succ, List.getElem?_cons_zero]; first | done | rfl)); (· exact (fun _ _ _ h => h)); (· rfl); (· (intro w hSw; (try dsimp only at hSw); go_simp; (try with_reducible rfl))))
        (try simp only [Act.put, List.setIfInBounds_toArray, List.set_cons_zero, List.set_cons_succ])
        (refine wpAnyH_take (i := 8) (oi := ?_) (v := ?_) ?_ (by kernel_rfl) (by kernel_rfl) (by kernel_rfl) ?_ (Or.inl ⟨?_, ?_⟩) (by assumption) ?_; rotate_left 2; (· (simp only [List.getElem?_toArray, List.getElem?_cons_succ, List.getElem?_cons_zero]; first | done | rfl)); (· exact (fun _ _ _ h => h)); (· rfl); (· (intro w hSw; (try dsimp only at hSw); go_simp; (try with_reducible rfl))))
        (try simp only [Act.put, List.setIfInBounds_toArray, List.set_cons_zero, List.set_cons_succ])
        (refine wpAnyH_take (i := 9) (oi := ?_) (v := ?_) ?_ (by kernel_rfl) (by kernel_rfl) (by kernel_rfl) ?_ (Or.inl ⟨?_, ?_⟩) (by assumption) ?_; rotate_left 2; (· (simp only [List.getElem?_toArray, List.getElem?_cons_succ, List.getElem?_cons_zero]; first | done | rfl)); (· exact (fun _ _ _ h => h)); (· rfl); (· (intro w hSw; (try dsimp only at hSw); go_simp; (try with_reducible rfl))))
        (try simp only [Act.put, List.setIfInBounds_toArray, List.set_cons_zero, List.set_cons_succ])
        refine wpAnyH_ready (rs := [3, 6]) (by kernel_rfl) (by simp) ?_
        refine AllReadyH.cons (o := ?_) ?_ (fun K hK => ?_) ?_
        rotate_left 1
        · (simp only [List.getElem?_toArray, List.getElem?_cons_succ, List.getElem?_cons_zero]; first | done | rfl)
        rotate_left 1
        refine AllReadyH.cons (o := ?_) ?_ (fun K hK => ?_) AllReadyH.nil
        rotate_left 1
        · (simp only [List.getElem?_toArray, List.getElem?_cons_succ, List.getElem?_cons_zero]; first | done | rfl)
        rotate_left 1
        · skip
          go_simp
          go_at_call 31
          refine (wtext_any b _ nm _ HWR.out (by omega)).mono ?_
          rintro e D1 ⟨rfl, hwr, hwt⟩
          first | (refine hK.out _ _ ?_ (fun hq1 => ?_)) | (go_wp2_with fail; refine hK.out _ _ ?_ (fun hq1 => ?_))
          · exact HSALL.out _ (HBB.out.trans hwt)
          clear hK K
          (try simp only [Act.put, List.setIfInBounds_toArray, List.set_cons_zero, List.set_cons_succ])
          clear hq0
          replace HBB := Lib.hid (HBB.out.trans hwt)
          replace HWR := Lib.hid hwr
          clear hwr hwt
          refine wpAnyH_ready (rs := [6]) (by kernel_rfl) (by simp) ?_
          refine AllReadyH.cons (o := ?_) ?_ (fun K hK => ?_) AllReadyH.nil
          rotate_left 1
          · (simp only [List.getElem?_toArray, List.getElem?_cons_succ, List.getElem?_cons_zero]; first | done | rfl)
          go_simp
          refine hK.out _ _ ?_ (fun hq2 => ?_)
          · exact HSALL.out _ (HBB.out.trans (wrote_below HWR.out.lt (balloc _ _)))
          clear hK K
          (try simp only [Act.put, List.setIfInBounds_toArray, List.set_cons_zero, List.set_cons_succ])
          clear hq1
          generalize hD : World.alloc D1 _ = D2 at hq2 ⊢
          have hb : Below D1.heap.size D1 D2 := by rw [← hD]; exact balloc _ _
          have Vp := Lib.hid (va_one op 3 HWR.out); rw [hD] at Vp
          clear hD
          have ht := wrote_below HWR.out.lt hb
          replace HBB := Lib.hid (HBB.out.trans ht)
          replace HWR := Lib.hid (HWR.out.below hb)
          clear hb ht
          generalize D1.heap.size = p at *
          refine wpAnyH_ready (rs := [7]) (by kernel_rfl) (by simp) ?_
          refine AllReadyH.cons (o := ?_) ?_ (fun K hK => ?_) AllReadyH.nil
          rotate_left 1
          · (simp only [List.getElem?_toArray, List.getElem?_cons_succ, List.getElem?_cons_zero]; first | done | rfl)
          go_simp
          go_at_call 29
          refine (wbyte_va HWR.out Vp.out (by simp [encText_len]; omega)).mono ?_
          rintro e D3 ⟨rfl, hwr, hwt⟩
          first | (refine hK.out _ _ ?_ (fun hq3 => ?_)) | (go_wp2_with fail; refine hK.out _ _ ?_ (fun hq3 => ?_))
          · exact HSALL.out _ (HBB.out.trans hwt)
          clear hK K
          (try simp only [Act.put, List.setIfInBounds_toArray, List.set_cons_zero, List.set_cons_succ])
          clear hq2
          replace Vp := Lib.hid (Vp.out.wrote hwt)
          replace HBB := Lib.hid (HBB.out.trans hwt)
          replace HWR := Lib.hid hwr
          clear hwr hwt
          refine wpAnyH_ready (rs := [10]) (by kernel_rfl) (by simp) ?_
          refine AllReadyH.cons (o := ?_) ?_ (fun K hK => ?_) AllReadyH.nil
          rotate_left 1
          · (simp only [List.getElem?_toArray, List.getElem?_cons_succ, List.getElem?_cons_zero]; first | done | rfl)
          go_simp
          go_at_call 37
          refine (wvalue_any b _ k1 n1 x1' t1 y1 _ HWR.out hnm (by simp [encText_len]; omega)).mono ?_
          rintro e D4 ⟨rfl, hwr, hwt⟩
          first | (refine hK.out _ _ ?_ (fun hq4 => ?_)) | (go_wp2_with fail; refine hK.out _ _ ?_ (fun hq4 => ?_))
          · exact HSALL.out _ (HBB.out.trans hwt)
          clear hK K
          (try simp only [Act.put, List.setIfInBounds_toArray, List.set_cons_zero, List.set_cons_succ])
          clear hq3
          replace Vp := Lib.hid (Vp.out.wrote hwt)
          replace HBB := Lib.hid (HBB.out.trans hwt)
          replace HWR := Lib.hid hwr
          clear hwr hwt
          refine wpAnyH_done (by kernel_rfl) ?_ _
          go_wp2_with fail
          exact ⟨⟨k + 1, by omega, by go_num, by rw [HSU.out, ← List.append_assoc, HS.out]; unfold encCond; simpa only [List.append_assoc, List.map_cons, List.map_nil] using HWR.out, HWT1.out.trans HBB.out⟩, by simp [RowKit.intOf]; go_num⟩
        · skip
          go_simp
          refine hK.out _ _ ?_ (fun hq1 => ?_)
          · exact HSALL.out _ (HBB.out.trans (wrote_below HWR.out.lt (balloc _ _)))
          clear hK K
          (try simp only [Act.put, List.setIfInBounds_toArray, List.set_cons_zero, List.set_cons_succ])
          clear hq0
          generalize hD : World.alloc D0 _ = D5 at hq1 ⊢
          have hb : Below D0.heap.size D0 D5 := by rw [← hD]; exact balloc _ _
          have Vp := Lib.hid (va_one op 3 HWR.out); rw [hD] at Vp
          clear hD
          have ht := wrote_below HWR.out.lt hb
          replace HBB := Lib.hid (HBB.out.trans ht)
          replace HWR := Lib.hid (HWR.out.below hb)
          clear hb ht
          generalize D0.heap.size = p at *
          refine wpAnyH_ready (rs := [3]) (by kernel_rfl) (by simp) ?_
          refine AllReadyH.cons (o := ?_) ?_ (fun K hK => ?_) AllReadyH.nil
          rotate_left 1
          · (simp only [List.getElem?_toArray, List.getElem?_cons_succ, List.getElem?_cons_zero]; first | done | rfl)
          go_simp
          go_at_call 31
          refine (wtext_any b _ nm _ HWR.out (by omega)).mono ?_
          rintro e D6 ⟨rfl, hwr, hwt⟩
          first | (refine hK.out _ _ ?_ (fun hq2 => ?_)) | (go_wp2_with fail; refine hK.out _ _ ?_ (fun hq2 => ?_))
          · exact HSALL.out _ (HBB.out.trans hwt)
          clear hK K
          (try simp only [Act.put, List.setIfInBounds_toArray, List.set_cons_zero, List.set_cons_succ])
          clear hq1
          replace Vp := Lib.hid (Vp.out.wrote hwt)
          replace HBB := Lib.hid (HBB.out.trans hwt)
          replace HWR := Lib.hid hwr
          clear hwr hwt
          refine wpAnyH_ready (rs := [7]) (by kernel_rfl) (by simp) ?_
          refine AllReadyH.cons (o := ?_) ?_ (fun K hK => ?_) AllReadyH.nil
          rotate_left 1
          · (simp only [List.getElem?_toArray, List.getElem?_cons_succ, List.getElem?_cons_zero]; first | done | rfl)
          go_simp
          go_at_call 29
          refine (wbyte_va HWR.out Vp.out (by simp [encText_len]; omega)).mono ?_
          rintro e D7 ⟨rfl, hwr, hwt⟩
          first | (refine hK.out _ _ ?_ (fun hq3 => ?_)) | (go_wp2_with fail; refine hK.out _ _ ?_ (fun hq3 => ?_))
          · exact HSALL.out _ (HBB.out.trans hwt)
          clear hK K
          (try simp only [Act.put, List.setIfInBounds_toArray, List.set_cons_zero, List.set_cons_succ])
          clear hq2
          replace Vp := Lib.hid (Vp.out.wrote hwt)
          replace HBB := Lib.hid (HBB.out.trans hwt)
          replace HWR := Lib.hid hwr
          clear hwr hwt
          refine wpAnyH_ready (rs := [10]) (by kernel_rfl) (by simp) ?_
          refine AllReadyH.cons (o := ?_) ?_ (fun K hK => ?_) AllReadyH.nil
          rotate_left 1
          · (simp only [List.getElem?_toArray, List.getElem?_cons_succ, List.getElem?_cons_zero]; first | done | rfl)
          go_simp
          go_at_call 37
          refine (wvalue_any b _ k1 n1 x1' t1 y1 _ HWR.out hnm (by simp [encText_len]; omega)).mono ?_
          rintro e D8 ⟨rfl, hwr, hwt⟩
          first | (refine hK.out _ _ ?_ (fun hq4 => ?_)) | (go_wp2_with fail; refine hK.out _ _ ?_ (fun hq4 => ?_))
          · exact HSALL.out _ (HBB.out.trans hwt)
          clear hK K
          (try simp only [Act.put, List.setIfInBounds_toArray, List.set_cons_zero, List.set_cons_succ])
          clear hq3
          replace Vp := Lib.hid (Vp.out.wrote hwt)
          replace HBB := Lib.hid (HBB.out.trans hwt)
          replace HWR := Lib.hid hwr
          clear hwr hwt
          refine wpAnyH_done (by kernel_rfl) ?_ _
          go_wp2_with fail
          exact ⟨⟨k + 1, by omega, by go_num, by rw [HSU.out, ← List.append_assoc, HS.out]; unfold encCond; simpa only [List.append_assoc, List.map_cons, List.map_nil] using HWR.out, HWT1.out.trans HBB.out⟩, by simp [RowKit.intOf]; go_num⟩
      · have i1 : ¬ (k : Int) < (l.length : Int) := by omega
        obtain rfl : k = l.length := by omega
        rw [List.take_length] at hwr
        go_wp2_with fail
        go_ret
        refine ⟨rfl, ?_, hwt⟩
        unfold encFilter
        simpa only [List.append_assoc] using hwr
end Go.Proofs.Ytpbdgbejcdncgaa.Wire
