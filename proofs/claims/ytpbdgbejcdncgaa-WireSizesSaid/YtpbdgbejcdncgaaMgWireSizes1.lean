/- MERGED BY A PROGRAM OF MINE (mg.py) out of my own texts, in their order: Wr5, PolFn, PolMem, Wr6. -/
import Derived.Test.YtpbdgbejcdncgaaWr4
import Derived.Test.YtpbdgbejcdncgaaFil
import Derived.Deep.DeepCutAuto
import Derived.Deep.LoopGhost
import Derived.Deep.RegionHeld3
import Derived.Test.YtpbdgbejcdncgaaFilFn
import Derived.Test.YtpbdgbejcdncgaaFilM
import Derived.Maps.AppendAt

section
/- A WRITER OF BYTES: a vararg's numbers; a filter, an event, a rule. -/
namespace Go.Proofs.Ytpbdgbejcdncgaa.Wire
open Go.RowKit Flt Go.Proofs.Ytpbdgbejcdncgaa.Val Go.Lib
attribute [local go_sem] run_store_flt
/-- a vararg's numbers in a block that a writer leaves alone -/
structure VA (W : World) (b p : Nat) (ns : List Int) : Prop where
  free : Free W b p
  cells : ∀ i (hi : i < ns.length), W.cell? ((⟨p, 0, none⟩ : Addr).add i) = some (.int .i64 ns[i])
theorem VA.wrote {W W2 : World} {b p : Nat} {ns : List Int} (h : VA W b p ns) (hw : Wrote b W W2) : VA W2 b p ns := by
  refine ⟨(hw.free p h.free).1, fun i hi => ?_⟩
  have hadd : ∀ i, (⟨p, 0, none⟩ : Addr).add i = ⟨p, i, none⟩ := fun i => by unfold Addr.add; split <;> simp_all
  have := h.cells i hi
  rw [hadd] at this ⊢
  exact (hw.cell h.free i).trans this
theorem va_one {W : World} {b : Nat} {s : List UInt8} (n : Int) (T : TypeId) (h : Wr W b s) : VA (W.alloc (.cells #[.int .i64 n] T)) b W.heap.size [n] := by
  refine ⟨h.free_new (balloc _ _) (Nat.le_refl _) (by simp), fun i hi => ?_⟩
  have : i = 0 := by simpa using hi
  subst this
  exact World.cell?_alloc_at _ _ _ _ rfl
theorem va_two {W : World} {b : Nat} {s : List UInt8} (n m : Int) (T : TypeId) (h : Wr W b s) : VA (W.alloc (.cells #[.int .i64 n, .int .i64 m] T)) b W.heap.size [n, m] := by
  refine ⟨h.free_new (balloc _ _) (Nat.le_refl _) (by simp), fun i hi => ?_⟩
  have hadd : (⟨W.heap.size, 0, none⟩ : Addr).add i = ⟨W.heap.size, i, none⟩ := by unfold Addr.add; split <;> simp_all
  rw [hadd, World.cell?_alloc_at _ _ _ _ rfl]
  match i, hi with
  | 0, _ => rfl
  | 1, _ => rfl
theorem wbyte_va {b : Nat} {s : List UInt8} {p : Nat} {ns : List Int} {w : World} (h : Wr w b s) (hv : VA w b p ns) (hl : s.length + ns.length ≤ 1000000) :
    Calls Try.prog 29 #[.pointer (some ⟨b, 0, none⟩), .slice (some ⟨p, 0, none⟩) ns.length ns.length] w fun e w' => e = .returned (.pointer (some ⟨b, 0, none⟩)) ∧ Wr w' b (s ++ ns.map byteOf) ∧ Wrote b w w' :=
  wbyte_any b s ⟨p, 0, none⟩ ns ns.length w h hv.free hv.cells hl
theorem wr_drew {W : World} {b : Nat} {s : List UInt8} (h : Wr W b s) : Wr W.drew b s := by obtain ⟨v, h⟩ := h; exact ⟨v, h.drew⟩
def encCond (c : C) : List UInt8 := encText c.name ++ [byteOf c.op] ++ encVal c.val.kind c.val.int c.val.num c.val.text c.val.yes
def encConds (l : List C) : List UInt8 := l.flatMap encCond
def encFilter (sf : List UInt8) (l : List C) : List UInt8 := encText sf ++ [byteOf l.length] ++ encConds l
theorem encConds_succ (l : List C) (k : Nat) (h : k < l.length) : encConds (l.take (k + 1)) = encConds (l.take k) ++ encCond l[k] := by
  unfold encConds
  rw [List.take_add_one, List.getElem?_eq_getElem h, List.flatMap_append]
  simp
theorem encConds_le (l : List C) (k : Nat) : (encConds (l.take k)).length ≤ (encConds l).length := by
  have : encConds l = encConds (l.take k) ++ encConds (l.drop k) := by
    unfold encConds
    rw [← List.flatMap_append, List.take_append_drop]
  rw [this, List.length_append]; omega
set_option maxRecDepth 20000 in
set_option maxHeartbeats 4000000 in
theorem wfilter_any (b : Nat) (s sf : List UInt8) (a0 : Option Addr) (cap : Nat) (l : List C) (w w0 : World) (h : Wr w b s) (hcl : Conds w0 a0 l) (hb0 : Below w0.heap.size w0 w) (hle : w0.heap.size ≤ b) (hnum : ∀ c ∈ l, c.val.num < 18446744073709551616) (hl : s.length + (encFilter sf l).length ≤ 1000000) (hlm : l.length ≤ 1000000) :
    Calls Try.prog 14 #[.pointer (some ⟨b, 0, none⟩), ev sf a0 l.length cap] w fun e w' => e = .returned (.pointer (some ⟨b, 0, none⟩)) ∧ Wr w' b (s ++ encFilter sf l) ∧ Wrote b w w' := by
  have hlen : s.length + sf.length + 2 + (encConds l).length ≤ 1000000 := by
    unfold encFilter at hl
    simp only [List.length_append, encText_len, List.length_singleton] at hl
    omega
  clear hl
  have hcn : ∀ W, Wrote b w W → Conds W a0 l := fun W hb => hcl.below (hb0.trans (hb.below h hle))
  have HWR := Lib.hid h; have HH := Lib.hid h
  have HCN := Lib.hid hcn; have HNUM := Lib.hid hnum
  clear h hcl hb0 hnum hle hcn
  go_enter Try.func14, Try.ntmps14
  go_upto_region 1 with fail
  replace HWR := Lib.hid (HWR.out.below (balloc w (.cells #[.string ⟨sf.toArray⟩, .slice a0 l.length cap] 26)))
  have hfr := HH.out.free_new (balloc w (.cells #[.string ⟨sf.toArray⟩, .slice a0 l.length cap] 26)) (Nat.le_refl _) (by simp)
  have hx0 := box2_new w sf a0 l.length cap 26
  have hwt0 := wrote_below HH.out.lt (balloc w (.cells #[.string ⟨sf.toArray⟩, .slice a0 l.length cap] 26))
  generalize w.alloc _ = W0 at *
  have hsall : ∀ W, Wrote b W0 W → (fun w' => w'.cell? ⟨w.heap.size, 0, none⟩ = some (.string ⟨sf.toArray⟩) ∧ w'.cell? ⟨w.heap.size, 1, none⟩ = some (.slice a0 l.length cap)) W := fun W hb => ⟨(hb.cell hfr 0).trans hx0.1, (hb.cell hfr 1).trans hx0.2⟩
  have HSALL := Lib.hid hsall; have HWT0 := Lib.hid hwt0; have HFR := Lib.hid hfr
  clear hsall hwt0 hfr hx0
  go_cut [15] (fun va wx => Hid (Wr wx b (s ++ encText sf ++ [byteOf l.length])) ∧ Hid (Wrote b W0 wx))
  case first =>
    clear HCN HNUM HH
    refine wp_region_held_drew (S := (fun w' => w'.cell? ⟨w.heap.size, 0, none⟩ = some (.string ⟨sf.toArray⟩) ∧ w'.cell? ⟨w.heap.size, 1, none⟩ = some (.slice a0 l.length cap))) (by kernel_rfl) ?_ (fun hq0 => ?_)
    · exact HSALL.out _ (wrote_drew b W0)
    have HBB : Hid (Wrote b W0 W0.drew) := Lib.hid (wrote_drew b W0)
    replace HWR := Lib.hid (wr_drew HWR.out)
    generalize W0.drew = D0 at *
    (refine wpAnyH_take (i := 0) (oi := ?_) (v := ?_) ?_ (by kernel_rfl) (by kernel_rfl) (by kernel_rfl) ?_ (Or.inl ⟨?_, ?_⟩) (by assumption) ?_; rotate_left 2; (· (simp only [List.getElem?_toArray, List.getElem?_cons_zero]; first | done | rfl)); (· exact (fun _ _ _ h => h)); (· rfl); (· (intro w hSw; (try dsimp only at hSw); go_simp; (try with_reducible rfl))))
    (try simp only [Act.put, List.setIfInBounds_toArray, List.set_cons_zero, List.set_cons_succ])
    (refine wpAnyH_take (i := 1) (oi := ?_) (v := ?_) ?_ (by kernel_rfl) (by kernel_rfl) (by kernel_rfl) ?_ (Or.inl ⟨?_, ?_⟩) (by assumption) ?_; rotate_left 2; (· (simp only [List.getElem?_toArray, List.getElem?_cons_succ, List.getElem?_cons_zero]; first | done | rfl)); (· exact (fun _ _ _ h => h)); (· rfl); (· (intro w hSw; (try dsimp only at hSw); go_simp; (try with_reducible rfl))))
    (try simp only [Act.put, List.setIfInBounds_toArray, List.set_cons_zero, List.set_cons_succ])
    (refine wpAnyH_take (i := 2) (oi := ?_) (v := ?_) ?_ (by kernel_rfl) (by kernel_rfl) (by kernel_rfl) ?_ (Or.inl ⟨?_, ?_⟩) (by assumption) ?_; rotate_left 2; (· (simp only [List.getElem?_toArray, List.getElem?_cons_succ, List.getElem?_cons_zero]; first | done | rfl)); (· exact (fun _ _ _ h => h)); (· rfl); (· (intro w hSw; (try dsimp only at hSw); go_simp; (try with_reducible rfl))))
    (try simp only [Act.put, List.setIfInBounds_toArray, List.set_cons_zero, List.set_cons_succ])
    (refine wpAnyH_take (i := 4) (oi := ?_) (v := ?_) ?_ (by kernel_rfl) (by kernel_rfl) (by kernel_rfl) ?_ (Or.inl ⟨?_, ?_⟩) (by assumption) ?_; rotate_left 2; (· (simp only [List.getElem?_toArray, List.getElem?_cons_succ, List.getElem?_cons_zero]; first | done | rfl)); (· exact (fun _ _ _ h => h)); (· rfl); (· (intro w hSw; (try dsimp only at hSw); go_simp; (try with_reducible rfl))))
    (try simp only [Act.put, List.setIfInBounds_toArray, List.set_cons_zero, List.set_cons_succ])
    (refine wpAnyH_take (i := 5) (oi := ?_) (v := ?_) ?_ (by kernel_rfl) (by kernel_rfl) (by kernel_rfl) ?_ (Or.inl ⟨?_, ?_⟩) (by assumption) ?_; rotate_left 2; (· (simp only [List.getElem?_toArray, List.getElem?_cons_succ, List.getElem?_cons_zero]; first | done | rfl)); (· exact (fun _ _ _ h => h)); (· rfl); (· (intro w hSw; (try dsimp only at hSw); go_simp; (try with_reducible rfl))))
    (try simp only [Act.put, List.setIfInBounds_toArray, List.set_cons_zero, List.set_cons_succ])
    (refine wpAnyH_take (i := 6) (oi := ?_) (v := ?_) ?_ (by kernel_rfl) (by kernel_rfl) (by kernel_rfl) ?_ (Or.inl ⟨?_, ?_⟩) (by assumption) ?_; rotate_left 2; (· (simp only [List.getElem?_toArray, List.getElem?_cons_succ, List.getElem?_cons_zero]; first | done | rfl)); (· exact (fun _ _ _ h => h)); (· rfl); (· (intro w hSw; (try dsimp only at hSw); go_simp; (try with_reducible rfl))))
    (try simp only [Act.put, List.setIfInBounds_toArray, List.set_cons_zero, List.set_cons_succ])
    refine wpAnyH_ready (rs := [3, 7]) (by kernel_rfl) (by simp) ?_
    refine AllReadyH.cons (o := ?_) ?_ (fun K hK => ?_) ?_
    rotate_left 1
    · (simp only [List.getElem?_toArray, List.getElem?_cons_succ, List.getElem?_cons_zero]; first | done | rfl)
    rotate_left 1
    refine AllReadyH.cons (o := ?_) ?_ (fun K hK => ?_) AllReadyH.nil
    rotate_left 1
    · (simp only [List.getElem?_toArray, List.getElem?_cons_succ, List.getElem?_cons_zero]; first | done | rfl)
    rotate_left 1
    · skip
      go_simp
      go_at_call 31
      refine (wtext_any b _ sf _ HWR.out (by omega)).mono ?_
      rintro e D1 ⟨rfl, hwr, hwt⟩
      first | (refine hK.out _ _ ?_ (fun hq1 => ?_)) | (go_wp2_with fail; refine hK.out _ _ ?_ (fun hq1 => ?_))
      · exact HSALL.out _ (HBB.out.trans hwt)
      clear hK K
      (try simp only [Act.put, List.setIfInBounds_toArray, List.set_cons_zero, List.set_cons_succ])
      clear hq0
      replace HBB := Lib.hid (HBB.out.trans hwt)
      replace HWR := Lib.hid hwr
      clear hwr hwt
      refine wpAnyH_ready (rs := [7]) (by kernel_rfl) (by simp) ?_
      refine AllReadyH.cons (o := ?_) ?_ (fun K hK => ?_) AllReadyH.nil
      rotate_left 1
      · (simp only [List.getElem?_toArray, List.getElem?_cons_succ, List.getElem?_cons_zero]; first | done | rfl)
      go_simp
      refine hK.out _ _ ?_ (fun hq2 => ?_)
      · exact HSALL.out _ (HBB.out.trans (wrote_below HWR.out.lt (balloc _ _)))
      clear hK K
      (try simp only [Act.put, List.setIfInBounds_toArray, List.set_cons_zero, List.set_cons_succ])
      clear hq1
      generalize hD : World.alloc D1 _ = D2 at hq2 ⊢
      have hb : Below D1.heap.size D1 D2 := by rw [← hD]; exact balloc _ _
      have Vp := Lib.hid (va_one (l.length : Int) 3 HWR.out); rw [hD] at Vp
      clear hD
      have ht := wrote_below HWR.out.lt hb
      replace HBB := Lib.hid (HBB.out.trans ht)
      replace HWR := Lib.hid (HWR.out.below hb)
      clear hb ht
      generalize D1.heap.size = p at *
      refine wpAnyH_ready (rs := [8]) (by kernel_rfl) (by simp) ?_
      refine AllReadyH.cons (o := ?_) ?_ (fun K hK => ?_) AllReadyH.nil
      rotate_left 1
      · (simp only [List.getElem?_toArray, List.getElem?_cons_succ, List.getElem?_cons_zero]; first | done | rfl)
      go_simp
      go_at_call 29
      refine (wbyte_va HWR.out Vp.out (by simp [encText_len]; omega)).mono ?_
      rintro e D3 ⟨rfl, hwr, hwt⟩
      first | (refine hK.out _ _ ?_ (fun hq3 => ?_)) | (go_wp2_with fail; refine hK.out _ _ ?_ (fun hq3 => ?_))
      · exact HSALL.out _ (HBB.out.trans hwt)
      clear hK K
      (try simp only [Act.put, List.setIfInBounds_toArray, List.set_cons_zero, List.set_cons_succ])
      clear hq2
      replace Vp := Lib.hid (Vp.out.wrote hwt)
      replace HBB := Lib.hid (HBB.out.trans hwt)
      replace HWR := Lib.hid hwr
      clear hwr hwt
      refine wpAnyH_done (by kernel_rfl) ?_ _
      go_wp2_with fail
      go_meet
      exact ⟨HWR, HBB⟩
    · skip
      go_simp
      refine hK.out _ _ ?_ (fun hq1 => ?_)
      · exact HSALL.out _ (HBB.out.trans (wrote_below HWR.out.lt (balloc _ _)))
      clear hK K
      (try simp only [Act.put, List.setIfInBounds_toArray, List.set_cons_zero, List.set_cons_succ])
      clear hq0
      generalize hD : World.alloc D0 _ = D4 at hq1 ⊢
      have hb : Below D0.heap.size D0 D4 := by rw [← hD]; exact balloc _ _
      have Vp := Lib.hid (va_one (l.length : Int) 3 HWR.out); rw [hD] at Vp
      clear hD
      have ht := wrote_below HWR.out.lt hb
      replace HBB := Lib.hid (HBB.out.trans ht)
      replace HWR := Lib.hid (HWR.out.below hb)
      clear hb ht
      generalize D0.heap.size = p at *
      refine wpAnyH_ready (rs := [3]) (by kernel_rfl) (by simp) ?_
      refine AllReadyH.cons (o := ?_) ?_ (fun K hK => ?_) AllReadyH.nil
      rotate_left 1
      · (simp only [List.getElem?_toArray, List.getElem?_cons_succ, List.getElem?_cons_zero]; first | done | rfl)
      go_simp
      go_at_call 31
      refine (wtext_any b _ sf _ HWR.out (by omega)).mono ?_
      rintro e D5 ⟨rfl, hwr, hwt⟩
      first | (refine hK.out _ _ ?_ (fun hq2 => ?_)) | (go_wp2_with fail; refine hK.out _ _ ?_ (fun hq2 => ?_))
      · exact HSALL.out _ (HBB.out.trans hwt)
      clear hK K
      (try simp only [Act.put, List.setIfInBounds_toArray, List.set_cons_zero, List.set_cons_succ])
      clear hq1
      replace Vp := Lib.hid (Vp.out.wrote hwt)
      replace HBB := Lib.hid (HBB.out.trans hwt)
      replace HWR := Lib.hid hwr
      clear hwr hwt
      refine wpAnyH_ready (rs := [8]) (by kernel_rfl) (by simp) ?_
      refine AllReadyH.cons (o := ?_) ?_ (fun K hK => ?_) AllReadyH.nil
      rotate_left 1
      · (simp only [List.getElem?_toArray, List.getElem?_cons_succ, List.getElem?_cons_zero]; first | done | rfl)
      go_simp
      go_at_call 29
      refine (wbyte_va HWR.out Vp.out (by simp [encText_len]; omega)).mono ?_
      rintro e D6 ⟨rfl, hwr, hwt⟩
      first | (refine hK.out _ _ ?_ (fun hq3 => ?_)) | (go_wp2_with fail; refine hK.out _ _ ?_ (fun hq3 => ?_))
      · exact HSALL.out _ (HBB.out.trans hwt)
      clear hK K
      (try simp only [Act.put, List.setIfInBounds_toArray, List.set_cons_zero, List.set_cons_succ])
      clear hq2
      replace Vp := Lib.hid (Vp.out.wrote hwt)
      replace HBB := Lib.hid (HBB.out.trans hwt)
      replace HWR := Lib.hid hwr
      clear hwr hwt
      refine wpAnyH_done (by kernel_rfl) ?_ _
      go_wp2_with fail
      go_meet
      exact ⟨HWR, HBB⟩
  case rest =>
    obtain ⟨HW1, HT1⟩ := hcut
    obtain ⟨x0, x1⟩ := HSALL.out _ HT1.out
    have HT2 := Lib.hid (HWT0.out.trans HT1.out)
    clear HWR HSALL HFR
    go_wp2_with fail
    go_loopw [19] (fun vi wr => ∃ k : Nat, k ≤ l.length ∧ vi = .int .i64 k ∧ Wr wr b (s ++ encText sf ++ [byteOf l.length] ++ encConds (l.take k)) ∧ Wrote b w wr) (fun vi _ => l.length - (RowKit.intOf vi).toNat)
    case atStart => exact ⟨0, Nat.zero_le _, rfl, by simpa [encConds] using HW1.out, HT2.out⟩
    case round =>
      obtain ⟨k, hk, rfl, hwr, hwt⟩ := hrel
      by_cases hlt : k < l.length
      · have i1 : (k : Int) < (l.length : Int) := by omega
        have i0 : (0 : Int) ≤ (k : Int) := by omega
        obtain ⟨a, rfl, v0, v1, v2, v3, v4, v5, v6⟩ := (HCN.out _ hwt) k hlt
        have hnm := HNUM.out _ (List.getElem_mem hlt)
        have hsu := encConds_succ l k hlt
        have hle1 := encConds_le l (k + 1)
        have hla : (s ++ encText sf ++ [byteOf l.length] ++ encConds (l.take k)).length = s.length + sf.length + 2 + (encConds (l.take k)).length := by simp [encText_len]; omega
        rw [hsu, List.length_append] at hle1
        generalize l[k] = c at *
        generalize hS : s ++ encText sf ++ [byteOf l.length] ++ encConds (l.take k) = S at *
        have HSU := Lib.hid hsu; have HS := Lib.hid hS; have HWT := Lib.hid hwt; have HWQ := Lib.hid hwr
        obtain ⟨nm, op, ⟨k1, n1, x1', t1, y1⟩⟩ := c
        dsimp only at hnm v0 v1 v2 v3 v4 v5 v6
        have hlc : S.length + nm.length + 2 + (encVal k1 n1 x1' t1 y1).length ≤ 1000000 := by
          unfold encCond at hle1
          simp only [List.length_append, encText_len, List.length_singleton] at hle1
          omega
        clear hsu hS hwt hwr hle1 hla
        go_upto_region 5 with fail
        have hcat := cat_new wr ⟨nm, op, ⟨k1, n1, x1', t1, y1⟩⟩ 72
        dsimp only at hcat
        have hal := balloc wr (.cells #[.string ⟨nm.toArray⟩, .int .i64 op, .int .i64 k1, .int .i64 n1, .float .f64 x1', .string ⟨t1.toArray⟩, .bool y1] 72)
        have hsz : wr.heap.size < (wr.alloc (.cells #[.string ⟨nm.toArray⟩, .int .i64 op, .int .i64 k1, .int .i64 n1, .float .f64 x1', .string ⟨t1.toArray⟩, .bool y1] 72)).heap.size := by simp
        generalize World.alloc wr _ = W1 at *
        have hfr := HWQ.out.free_new hal (Nat.le_refl _) hsz
        have hwt1 := wrote_below HWQ.out.lt hal
        have hsall : ∀ W, Wrote b W1 W → (fun w' => w'.cell? ⟨wr.heap.size, 0, none⟩ = some (.string ⟨nm.toArray⟩) ∧ w'.cell? ⟨wr.heap.size, 1, none⟩ = some (.int .i64 op) ∧ w'.cell? ⟨wr.heap.size, 2, none⟩ = some (.int .i64 k1) ∧ w'.cell? ⟨wr.heap.size, 3, none⟩ = some (.int .i64 n1) ∧ w'.cell? ⟨wr.heap.size, 4, none⟩ = some (.float .f64 x1') ∧ w'.cell? ⟨wr.heap.size, 5, none⟩ = some (.string ⟨t1.toArray⟩) ∧ w'.cell? ⟨wr.heap.size, 6, none⟩ = some (.bool y1)) W := fun W hb => ⟨(hb.cell hfr 0).trans hcat.1, (hb.cell hfr 1).trans hcat.2.1, (hb.cell hfr 2).trans hcat.2.2.1, (hb.cell hfr 3).trans hcat.2.2.2.1, (hb.cell hfr 4).trans hcat.2.2.2.2.1, (hb.cell hfr 5).trans hcat.2.2.2.2.2.1, (hb.cell hfr 6).trans hcat.2.2.2.2.2.2⟩
        have HSALL := Lib.hid hsall; have HWT1 := Lib.hid (HWT.out.trans hwt1); have HWR := Lib.hid (HWQ.out.below hal)
        clear hsall hwt1 hfr hcat hal hsz v0 v1 v2 v3 v4 v5 v6 HWQ HWT
        refine wp_region_held_drew (S := (fun w' => w'.cell? ⟨wr.heap.size, 0, none⟩ = some (.string ⟨nm.toArray⟩) ∧ w'.cell? ⟨wr.heap.size, 1, none⟩ = some (.int .i64 op) ∧ w'.cell? ⟨wr.heap.size, 2, none⟩ = some (.int .i64 k1) ∧ w'.cell? ⟨wr.heap.size, 3, none⟩ = some (.int .i64 n1) ∧ w'.cell? ⟨wr.heap.size, 4, none⟩ = some (.float .f64 x1') ∧ w'.cell? ⟨wr.heap.size, 5, none⟩ = some (.string ⟨t1.toArray⟩) ∧ w'.cell? ⟨wr.heap.size, 6, none⟩ = some (.bool y1))) (by kernel_rfl) ?_ (fun hq0 => ?_)
        · exact HSALL.out _ (wrote_drew b W1)
        have HBB : Hid (Wrote b W1 W1.drew) := Lib.hid (wrote_drew b W1)
        replace HWR := Lib.hid (wr_drew HWR.out)
        generalize W1.drew = D0 at *
        (refine wpAnyH_take (i := 0) (oi := ?_) (v := ?_) ?_ (by kernel_rfl) (by kernel_rfl) (by kernel_rfl) ?_ (Or.inl ⟨?_, ?_⟩) (by assumption) ?_; rotate_left 2; (· (simp only [List.getElem?_toArray, List.getElem?_cons_zero]; first | done | rfl)); (· exact (fun _ _ _ h => h)); (· rfl); (· (intro w hSw; (try dsimp only at hSw); go_simp; (try with_reducible rfl))))
        (try simp only [Act.put, List.setIfInBounds_toArray, List.set_cons_zero, List.set_cons_succ])
        (refine wpAnyH_take (i := 1) (oi := ?_) (v := ?_) ?_ (by kernel_rfl) (by kernel_rfl) (by kernel_rfl) ?_ (Or.inl ⟨?_, ?_⟩) (by assumption) ?_; rotate_left 2; (· (simp only [List.getElem?_toArray, List.getElem?_cons_succ, List.getElem?_cons_zero]; first | done | rfl)); (· exact (fun _ _ _ h => h)); (· rfl); (· (intro w hSw; (try dsimp only at hSw); go_simp; (try with_reducible rfl))))
        (try simp only [Act.put, List.setIfInBounds_toArray, List.set_cons_zero, List.set_cons_succ])
        (refine wpAnyH_take (i := 2) (oi := ?_) (v := ?_) ?_ (by kernel_rfl) (by kernel_rfl) (by kernel_rfl) ?_ (Or.inl ⟨?_, ?_⟩) (by assumption) ?_; rotate_left 2; (· (simp only [List.getElem?_toArray, List.getElem?_cons_succ, List.getElem?_cons_zero]; first | done | rfl)); (· exact (fun _ _ _ h => h)); (· rfl); (· (intro w hSw; (try dsimp only at hSw); go_simp; (try with_reducible rfl))))
        (try simp only [Act.put, List.setIfInBounds_toArray, List.set_cons_zero, List.set_cons_succ])
        (refine wpAnyH_take (i := 4) (oi := ?_) (v := ?_) ?_ (by kernel_rfl) (by kernel_rfl) (by kernel_rfl) ?_ (Or.inl ⟨?_, ?_⟩) (by assumption) ?_; rotate_left 2; (· (simp only [List.getElem?_toArray, List.getElem?_cons_succ, List.getElem?_cons_zero]; first | done | rfl)); (· exact (fun _ _ _ h => h)); (· rfl); (· (intro w hSw; (try dsimp only at hSw); go_simp; (try with_reducible rfl))))
        (try simp only [Act.put, List.setIfInBounds_toArray, List.set_cons_zero, List.set_cons_succ])
        (refine wpAnyH_take (i := 5) (oi := ?_) (v := ?_) ?_ (by kernel_rfl) (by kernel_rfl) (by kernel_rfl) ?_ (Or.inl ⟨?_, ?_⟩) (by assumption) ?_; rotate_left 2; (· (simp only [List.getElem?_toArray, List.getElem?_cons_succ, List.getElem?_cons_zero]; first | done | rfl)); (· exact (fun _ _ _ h => h)); (· rfl); (· (intro w hSw; (try dsimp only at hSw); go_simp; (try with_reducible rfl))))
        (try simp only [Act.put, List.setIfInBounds_toArray, List.set_cons_zero, List.set_cons_succ])
        (refine wpAnyH_take (i := 8) (oi := ?_) (v := ?_) ?_ (by kernel_rfl) (by kernel_rfl) (by kernel_rfl) ?_ (Or.inl ⟨?_, ?_⟩) (by assumption) ?_; rotate_left 2; (· (simp only [List.getElem?_toArray, List.getElem?_cons_succ, List.getElem?_cons_zero]; first | done | rfl)); (· exact (fun _ _ _ h => h)); (· rfl); (· (intro w hSw; (try dsimp only at hSw); go_simp; (try with_reducible rfl))))
        (try simp only [Act.put, List.setIfInBounds_toArray, List.set_cons_zero, List.set_cons_succ])
        (refine wpAnyH_take (i := 9) (oi := ?_) (v := ?_) ?_ (by kernel_rfl) (by kernel_rfl) (by kernel_rfl) ?_ (Or.inl ⟨?_, ?_⟩) (by assumption) ?_; rotate_left 2; (· (simp only [List.getElem?_toArray, List.getElem?_cons_succ, List.getElem?_cons_zero]; first | done | rfl)); (· exact (fun _ _ _ h => h)); (· rfl); (· (intro w hSw; (try dsimp only at hSw); go_simp; (try with_reducible rfl))))
        (try simp only [Act.put, List.setIfInBounds_toArray, List.set_cons_zero, List.set_cons_succ])
        refine wpAnyH_ready (rs := [3, 6]) (by kernel_rfl) (by simp) ?_
        refine AllReadyH.cons (o := ?_) ?_ (fun K hK => ?_) ?_
        rotate_left 1
        · (simp only [List.getElem?_toArray, List.getElem?_cons_succ, List.getElem?_cons_zero]; first | done | rfl)
        rotate_left 1
        refine AllReadyH.cons (o := ?_) ?_ (fun K hK => ?_) AllReadyH.nil
        rotate_left 1
        · (simp only [List.getElem?_toArray, List.getElem?_cons_succ, List.getElem?_cons_zero]; first | done | rfl)
        rotate_left 1
        · skip
          go_simp
          go_at_call 31
          refine (wtext_any b _ nm _ HWR.out (by omega)).mono ?_
          rintro e D1 ⟨rfl, hwr, hwt⟩
          first | (refine hK.out _ _ ?_ (fun hq1 => ?_)) | (go_wp2_with fail; refine hK.out _ _ ?_ (fun hq1 => ?_))
          · exact HSALL.out _ (HBB.out.trans hwt)
          clear hK K
          (try simp only [Act.put, List.setIfInBounds_toArray, List.set_cons_zero, List.set_cons_succ])
          clear hq0
          replace HBB := Lib.hid (HBB.out.trans hwt)
          replace HWR := Lib.hid hwr
          clear hwr hwt
          refine wpAnyH_ready (rs := [6]) (by kernel_rfl) (by simp) ?_
          refine AllReadyH.cons (o := ?_) ?_ (fun K hK => ?_) AllReadyH.nil
          rotate_left 1
          · (simp only [List.getElem?_toArray, List.getElem?_cons_succ, List.getElem?_cons_zero]; first | done | rfl)
          go_simp
          refine hK.out _ _ ?_ (fun hq2 => ?_)
          · exact HSALL.out _ (HBB.out.trans (wrote_below HWR.out.lt (balloc _ _)))
          clear hK K
          (try simp only [Act.put, List.setIfInBounds_toArray, List.set_cons_zero, List.set_cons_succ])
          clear hq1
          generalize hD : World.alloc D1 _ = D2 at hq2 ⊢
          have hb : Below D1.heap.size D1 D2 := by rw [← hD]; exact balloc _ _
          have Vp := Lib.hid (va_one op 3 HWR.out); rw [hD] at Vp
          clear hD
          have ht := wrote_below HWR.out.lt hb
          replace HBB := Lib.hid (HBB.out.trans ht)
          replace HWR := Lib.hid (HWR.out.below hb)
          clear hb ht
          generalize D1.heap.size = p at *
          refine wpAnyH_ready (rs := [7]) (by kernel_rfl) (by simp) ?_
          refine AllReadyH.cons (o := ?_) ?_ (fun K hK => ?_) AllReadyH.nil
          rotate_left 1
          · (simp only [List.getElem?_toArray, List.getElem?_cons_succ, List.getElem?_cons_zero]; first | done | rfl)
          go_simp
          go_at_call 29
          refine (wbyte_va HWR.out Vp.out (by simp [encText_len]; omega)).mono ?_
          rintro e D3 ⟨rfl, hwr, hwt⟩
          first | (refine hK.out _ _ ?_ (fun hq3 => ?_)) | (go_wp2_with fail; refine hK.out _ _ ?_ (fun hq3 => ?_))
          · exact HSALL.out _ (HBB.out.trans hwt)
          clear hK K
          (try simp only [Act.put, List.setIfInBounds_toArray, List.set_cons_zero, List.set_cons_succ])
          clear hq2
          replace Vp := Lib.hid (Vp.out.wrote hwt)
          replace HBB := Lib.hid (HBB.out.trans hwt)
          replace HWR := Lib.hid hwr
          clear hwr hwt
          refine wpAnyH_ready (rs := [10]) (by kernel_rfl) (by simp) ?_
          refine AllReadyH.cons (o := ?_) ?_ (fun K hK => ?_) AllReadyH.nil
          rotate_left 1
          · (simp only [List.getElem?_toArray, List.getElem?_cons_succ, List.getElem?_cons_zero]; first | done | rfl)
          go_simp
          go_at_call 37
          refine (wvalue_any b _ k1 n1 x1' t1 y1 _ HWR.out hnm (by simp [encText_len]; omega)).mono ?_
          rintro e D4 ⟨rfl, hwr, hwt⟩
          first | (refine hK.out _ _ ?_ (fun hq4 => ?_)) | (go_wp2_with fail; refine hK.out _ _ ?_ (fun hq4 => ?_))
          · exact HSALL.out _ (HBB.out.trans hwt)
          clear hK K
          (try simp only [Act.put, List.setIfInBounds_toArray, List.set_cons_zero, List.set_cons_succ])
          clear hq3
          replace Vp := Lib.hid (Vp.out.wrote hwt)
          replace HBB := Lib.hid (HBB.out.trans hwt)
          replace HWR := Lib.hid hwr
          clear hwr hwt
          refine wpAnyH_done (by kernel_rfl) ?_ _
          go_wp2_with fail
          exact ⟨⟨k + 1, by omega, by go_num, by rw [HSU.out, ← List.append_assoc, HS.out]; unfold encCond; simpa only [List.append_assoc, List.map_cons, List.map_nil] using HWR.out, HWT1.out.trans HBB.out⟩, by simp [RowKit.intOf]; go_num⟩
        · skip
          go_simp
          refine hK.out _ _ ?_ (fun hq1 => ?_)
          · exact HSALL.out _ (HBB.out.trans (wrote_below HWR.out.lt (balloc _ _)))
          clear hK K
          (try simp only [Act.put, List.setIfInBounds_toArray, List.set_cons_zero, List.set_cons_succ])
          clear hq0
          generalize hD : World.alloc D0 _ = D5 at hq1 ⊢
          have hb : Below D0.heap.size D0 D5 := by rw [← hD]; exact balloc _ _
          have Vp := Lib.hid (va_one op 3 HWR.out); rw [hD] at Vp
          clear hD
          have ht := wrote_below HWR.out.lt hb
          replace HBB := Lib.hid (HBB.out.trans ht)
          replace HWR := Lib.hid (HWR.out.below hb)
          clear hb ht
          generalize D0.heap.size = p at *
          refine wpAnyH_ready (rs := [3]) (by kernel_rfl) (by simp) ?_
          refine AllReadyH.cons (o := ?_) ?_ (fun K hK => ?_) AllReadyH.nil
          rotate_left 1
          · (simp only [List.getElem?_toArray, List.getElem?_cons_succ, List.getElem?_cons_zero]; first | done | rfl)
          go_simp
          go_at_call 31
          refine (wtext_any b _ nm _ HWR.out (by omega)).mono ?_
          rintro e D6 ⟨rfl, hwr, hwt⟩
          first | (refine hK.out _ _ ?_ (fun hq2 => ?_)) | (go_wp2_with fail; refine hK.out _ _ ?_ (fun hq2 => ?_))
          · exact HSALL.out _ (HBB.out.trans hwt)
          clear hK K
          (try simp only [Act.put, List.setIfInBounds_toArray, List.set_cons_zero, List.set_cons_succ])
          clear hq1
          replace Vp := Lib.hid (Vp.out.wrote hwt)
          replace HBB := Lib.hid (HBB.out.trans hwt)
          replace HWR := Lib.hid hwr
          clear hwr hwt
          refine wpAnyH_ready (rs := [7]) (by kernel_rfl) (by simp) ?_
          refine AllReadyH.cons (o := ?_) ?_ (fun K hK => ?_) AllReadyH.nil
          rotate_left 1
          · (simp only [List.getElem?_toArray, List.getElem?_cons_succ, List.getElem?_cons_zero]; first | done | rfl)
          go_simp
          go_at_call 29
          refine (wbyte_va HWR.out Vp.out (by simp [encText_len]; omega)).mono ?_
          rintro e D7 ⟨rfl, hwr, hwt⟩
          first | (refine hK.out _ _ ?_ (fun hq3 => ?_)) | (go_wp2_with fail; refine hK.out _ _ ?_ (fun hq3 => ?_))
          · exact HSALL.out _ (HBB.out.trans hwt)
          clear hK K
          (try simp only [Act.put, List.setIfInBounds_toArray, List.set_cons_zero, List.set_cons_succ])
          clear hq2
          replace Vp := Lib.hid (Vp.out.wrote hwt)
          replace HBB := Lib.hid (HBB.out.trans hwt)
          replace HWR := Lib.hid hwr
          clear hwr hwt
          refine wpAnyH_ready (rs := [10]) (by kernel_rfl) (by simp) ?_
          refine AllReadyH.cons (o := ?_) ?_ (fun K hK => ?_) AllReadyH.nil
          rotate_left 1
          · (simp only [List.getElem?_toArray, List.getElem?_cons_succ, List.getElem?_cons_zero]; first | done | rfl)
          go_simp
          go_at_call 37
          refine (wvalue_any b _ k1 n1 x1' t1 y1 _ HWR.out hnm (by simp [encText_len]; omega)).mono ?_
          rintro e D8 ⟨rfl, hwr, hwt⟩
          first | (refine hK.out _ _ ?_ (fun hq4 => ?_)) | (go_wp2_with fail; refine hK.out _ _ ?_ (fun hq4 => ?_))
          · exact HSALL.out _ (HBB.out.trans hwt)
          clear hK K
          (try simp only [Act.put, List.setIfInBounds_toArray, List.set_cons_zero, List.set_cons_succ])
          clear hq3
          replace Vp := Lib.hid (Vp.out.wrote hwt)
          replace HBB := Lib.hid (HBB.out.trans hwt)
          replace HWR := Lib.hid hwr
          clear hwr hwt
          refine wpAnyH_done (by kernel_rfl) ?_ _
          go_wp2_with fail
          exact ⟨⟨k + 1, by omega, by go_num, by rw [HSU.out, ← List.append_assoc, HS.out]; unfold encCond; simpa only [List.append_assoc, List.map_cons, List.map_nil] using HWR.out, HWT1.out.trans HBB.out⟩, by simp [RowKit.intOf]; go_num⟩
      · have i1 : ¬ (k : Int) < (l.length : Int) := by omega
        obtain rfl : k = l.length := by omega
        rw [List.take_length] at hwr
        go_wp2_with fail
        go_ret
        refine ⟨rfl, ?_, hwt⟩
        unfold encFilter
        simpa only [List.append_assoc] using hwr
end Go.Proofs.Ytpbdgbejcdncgaa.Wire
end

section
/- PLAIN LAW OF A POLICY'S LOG: what may come next, what counts by a version. No program in sight. -/
namespace Go.Proofs.Ytpbdgbejcdncgaa.Pol
open Go.Proofs.Ytpbdgbejcdncgaa.Val
/-- what of a rule plays a part in a log -/
structure K where
  kind : Int
  tenant : Int
  who : List UInt8
  pl : Int
instance : Inhabited K := ⟨⟨0, 0, [], 0⟩⟩
def isHome (t : Int) (who : List UInt8) (k : K) : Bool := k.kind == 0 && k.tenant == t && k.who == who
def homeB (L : List K) (t : Int) (who : List UInt8) : Bool := L.any (isHome t who)
def peopleN (L : List K) : Nat := L.countP (fun k => k.kind == 0)
def hitB (i : Int) (k : K) : Bool := k.kind == 4 && k.pl == i
def goneB (L : List K) (i : Int) : Bool := L.any (hitB i)
/-- may what a rule revokes be revoked? -/
def oldB (L : List K) (p : Int) : Bool := decide (0 ≤ p) && decide (p < L.length) && (L[p.toNat]!.kind != 4 && L[p.toNat]!.kind != 0 && !goneB L p)
/-- the error of a rule behind others -/
def checkE (L : List K) (ok : Bool) (k : K) : Int :=
  if !ok then 1 else if L.length = 40 then 6
  else if k.kind == 4 then (if oldB L k.pl then 0 else 3)
  else if k.kind == 0 && homeB L k.tenant k.who then 4
  else if k.kind == 0 && peopleN L == 12 then 6
  else if k.kind != 0 && !homeB L k.tenant k.who then 3 else 0
def countB (L : List K) (v : Nat) (i : Nat) : Bool := L[i]!.kind != 4 && !goneB (L.take v) i
/-- the places of the first k rules that count by a version -/
def atP (L : List K) (v : Nat) (k : Nat) : List Nat := (List.range k).filter (countB L v)
theorem atP_succ (L : List K) (v k : Nat) : atP L v (k + 1) = atP L v k ++ (if countB L v k then [k] else []) := by
  unfold atP
  rw [List.range_succ, List.filter_append]
  congr 1
  cases h : countB L v k <;> simp [h]
theorem goneB_app (L M : List K) (i : Int) : goneB (L ++ M) i = (goneB L i || goneB M i) := by unfold goneB; rw [List.any_append]
theorem getI_app (L M : List K) (i : Nat) (h : i < L.length) : (L ++ M)[i]! = L[i]! := by
  rw [getElem!_pos (L ++ M) i (by rw [List.length_append]; omega), getElem!_pos L i h, List.getElem_append_left h]
/-- WHAT COMES LATER CHANGES NOTHING -/
theorem at_app (L M : List K) (v k : Nat) (hv : v ≤ L.length) (hk : k ≤ L.length) : atP (L ++ M) v k = atP L v k := by
  unfold atP
  refine List.filter_congr fun i hi => ?_
  have hi2 := List.mem_range.1 hi
  unfold countB
  rw [getI_app L M i (by omega), List.take_append_of_le_length hv]
/-- what a revocation takes away -/
theorem at_revoke (L : List K) (p : Nat) (r : K) (hr : r.kind = 4) (hpl : r.pl = (p : Int)) (hp : p < L.length) (hk : L[p]!.kind ≠ 4) (hg : goneB L p = false) :
    (atP (L ++ [r]) (L.length + 1) (L.length + 1)).length + 1 = (atP L L.length L.length).length := by
  have hlast : countB (L ++ [r]) (L.length + 1) L.length = false := by
    unfold countB
    rw [getElem!_pos (L ++ [r]) L.length (by simp)]
    simp [hr]
  rw [atP_succ, hlast]
  simp only [Bool.false_eq_true, if_false, List.append_nil]
  have key : ∀ k, k ≤ L.length → (atP (L ++ [r]) (L.length + 1) k).length + (if p < k then 1 else 0) = (atP L L.length k).length := by
    intro k
    induction k with
    | zero => intro _; simp [atP]
    | succ k ih =>
      intro hk1
      have h1 := ih (by omega)
      have hc : countB (L ++ [r]) (L.length + 1) k = (countB L L.length k && !decide (p = k)) := by
        unfold countB
        rw [getI_app L [r] k (by omega), List.take_of_length_le (by simp), List.take_length, goneB_app]
        have : goneB [r] (k : Int) = decide (p = k) := by
          unfold goneB hitB
          simp only [List.any_cons, List.any_nil, Bool.or_false, hr, hpl]
          rw [Bool.eq_iff_iff]
          simp
          omega
        rw [this]
        cases (L[k]!.kind != 4) <;> cases goneB L (k : Int) <;> cases decide (p = k) <;> rfl
      rw [atP_succ, atP_succ, List.length_append, List.length_append, hc]
      by_cases e : p = k
      · subst e
        have hc2 : countB L L.length p = true := by
          unfold countB
          rw [List.take_length, hg]
          simpa using hk
        simp only [hc2, decide_true, Bool.not_true, Bool.and_false, Bool.false_eq_true, if_false, if_true, List.length_nil, List.length_cons]
        rw [if_pos (show p < p + 1 by omega)]
        rw [if_neg (show ¬ p < p by omega)] at h1
        omega
      · simp only [e, decide_false, Bool.not_false, Bool.and_true]
        by_cases hlt : p < k
        · rw [if_pos hlt] at h1
          rw [if_pos (show p < k + 1 by omega)]
          omega
        · rw [if_neg hlt] at h1
          rw [if_neg (show ¬ p < k + 1 by omega)]
          omega
  have := key L.length (Nat.le_refl _)
  rw [if_pos hp] at this
  exact this
theorem check_revoke {L : List K} {k : K} (hk : k.kind = 4) (h : checkE L true k = 0) : L.length ≠ 40 ∧ oldB L k.pl = true := by
  unfold checkE at h
  simp only [Bool.not_true, Bool.false_eq_true, if_false, hk] at h
  by_cases h40 : L.length = 40
  · rw [if_pos h40] at h; omega
  · rw [if_neg h40] at h
    refine ⟨h40, ?_⟩
    cases ho : oldB L k.pl
    · rw [ho] at h; simp at h
    · rfl
theorem old_parts {L : List K} {p : Int} (h : oldB L p = true) : ∃ i : Nat, p = (i : Int) ∧ i < L.length ∧ L[i]!.kind ≠ 4 ∧ L[i]!.kind ≠ 0 ∧ goneB L i = false := by
  unfold oldB at h
  simp only [Bool.and_eq_true, decide_eq_true_eq, bne_iff_ne, Bool.not_eq_true'] at h
  obtain ⟨⟨h0, h1⟩, ⟨h2, h3⟩, h4⟩ := h
  obtain ⟨i, rfl⟩ := Int.eq_ofNat_of_zero_le h0
  exact ⟨i, rfl, by omega, by simpa using h2, by simpa using h3, h4⟩
/-- what is revoked isn't revoked again -/
theorem revoke_once (L : List K) (k r : K) (hk : k.kind = 4) (hr : r.kind = 4) (hp : r.pl = k.pl) : checkE (L ++ [r]) true k ≠ 0 := by
  intro h
  obtain ⟨_, ho⟩ := check_revoke hk h
  obtain ⟨i, e, _, _, _, hg⟩ := old_parts ho
  rw [goneB_app] at hg
  simp only [Bool.or_eq_false_iff] at hg
  have := hg.2
  unfold goneB hitB at this
  simp [hr, hp, e] at this
/-- two logs: of all tenants, of one -/
structure Twin (A O : List K) : Prop where
  own : O = A.filter (fun k => k.tenant == 0)
  none : ∀ k ∈ A, k.kind ≠ 4
  room : A.length ≤ 40
  people : peopleN A ≤ 12
theorem twin_nil : Twin [] [] := ⟨rfl, (fun _ h => by cases h), (by simp), (by simp [peopleN])⟩
theorem Twin.le {A O : List K} (h : Twin A O) : O.length ≤ A.length ∧ peopleN O ≤ peopleN A := by
  rw [h.own]
  exact ⟨List.length_filter_le _ _, by unfold peopleN; exact List.Sublist.countP_le List.filter_sublist⟩
theorem Twin.home {A O : List K} (h : Twin A O) (who : List UInt8) : homeB O 0 who = homeB A 0 who := by
  rw [h.own]
  unfold homeB
  rw [List.any_filter]
  congr 1
  funext k
  unfold isHome
  cases (k.tenant == 0) <;> simp
/-- RULES OF OTHER TENANTS PLAY NO PART -/
theorem twin_check {A O : List K} (h : Twin A O) (ok : Bool) (k : K) (h4 : k.kind ≠ 4) (h0 : k.tenant = 0) (h6 : checkE A ok k ≠ 6) : checkE O ok k = checkE A ok k := by
  obtain ⟨l1, l2⟩ := h.le
  have hr := h.room
  have hp := h.people
  have e4 : (k.kind == 4) = false := by simpa using h4
  unfold checkE at h6 ⊢
  rw [h0, e4] at h6 ⊢
  rw [h.home]
  cases ok
  · rfl
  · simp only [Bool.not_true, Bool.false_eq_true, if_false] at h6 ⊢
    by_cases h40 : A.length = 40
    · rw [if_pos h40] at h6; omega
    · rw [if_neg h40] at h6 ⊢
      rw [if_neg (by omega)]
      cases hk : (k.kind == 0) <;> cases hh : homeB A 0 k.who
      · rfl
      · rfl
      · rw [hk, hh] at h6
        simp only [Bool.and_false, Bool.false_eq_true, if_false, Bool.true_and] at h6 ⊢
        by_cases h12 : peopleN A = 12
        · exact absurd (by simp [h12]) h6
        · have hO : ¬ peopleN O = 12 := fun e => h12 (by omega)
          rw [if_neg (show ¬ (peopleN A == 12) = true by simpa using h12), if_neg (show ¬ (peopleN O == 12) = true by simpa using hO)]
      · rfl
theorem twin_add {A O : List K} (h : Twin A O) (ok : Bool) (k : K) (h4 : k.kind ≠ 4) (he : checkE A ok k = 0) : Twin (A ++ [k]) (if k.tenant = 0 then O ++ [k] else O) := by
  have e4 : (k.kind == 4) = false := by simpa using h4
  have hr := h.room
  have hp := h.people
  unfold checkE at he
  cases ok
  · simp at he
  simp only [Bool.not_true, Bool.false_eq_true, if_false, e4] at he
  by_cases h40 : A.length = 40
  · rw [if_pos h40] at he; omega
  rw [if_neg h40] at he
  refine ⟨?_, ?_, by rw [List.length_append]; simp; omega, ?_⟩
  · rw [List.filter_append, h.own]
    by_cases h0 : k.tenant = 0
    · rw [if_pos h0]; simp [h0]
    · rw [if_neg h0]; simp [h0]
  · intro x hx
    rcases List.mem_append.1 hx with hx | hx
    · exact h.none x hx
    · rw [List.mem_singleton] at hx; rw [hx]; exact h4
  · unfold peopleN at *
    rw [List.countP_append]
    cases hk : (k.kind == 0)
    · simp [hk]; exact hp
    · rw [hk] at he
      cases hh : homeB A k.tenant k.who
      · rw [hh] at he
        simp only [Bool.true_and, Bool.false_eq_true, if_false, Bool.and_false] at he
        by_cases h12 : List.countP (fun k => k.kind == 0) A = 12
        · rw [if_pos (by simpa using h12)] at he; omega
        · simp [hk]; omega
      · rw [hh] at he; simp at he
theorem gone_none {A : List K} (h : ∀ k ∈ A, k.kind ≠ 4) (i : Int) : goneB A i = false := by
  unfold goneB
  rw [List.any_eq_false]
  intro x hx
  unfold hitB
  have := h x hx
  simp [this]
/-- where nothing is revoked all counts -/
theorem at_all {A : List K} (h : ∀ k ∈ A, k.kind ≠ 4) : atP A A.length A.length = List.range A.length := by
  unfold atP
  rw [List.filter_eq_self]
  intro i hi
  have hi2 := List.mem_range.1 hi
  unfold countB
  rw [List.take_length, gone_none h, getElem!_pos A i hi2]
  have := h A[i] (List.getElem_mem hi2)
  simpa using this
/-- who joins: the first letters -/
def nameP (i : Nat) : List UInt8 := [112, UInt8.ofNat (97 + i)]
def joins (n : Nat) : List K := (List.range n).map (fun i => ⟨0, 0, nameP i, 0⟩)
theorem joins_succ (n : Nat) : joins (n + 1) = joins n ++ [⟨0, 0, nameP n, 0⟩] := by
  unfold joins; rw [List.range_succ, List.map_append]; rfl
theorem joins_len (n : Nat) : (joins n).length = n := by unfold joins; simp
theorem joins_people (n : Nat) : peopleN (joins n) = n := by
  unfold peopleN joins
  rw [List.countP_map]
  have : (List.countP ((fun k => k.kind == 0) ∘ fun i : Nat => (⟨0, 0, nameP i, 0⟩ : K)) (List.range n)) = (List.range n).length := List.countP_eq_length.2 (fun _ _ => rfl)
  rw [this, List.length_range]
theorem nameP_inj : ∀ i, i < 16 → ∀ j, j < 16 → nameP i = nameP j → i = j := by decide
theorem joins_home (n i : Nat) (hn : n ≤ 16) (hi : i < 16) : homeB (joins n) 0 (nameP i) = decide (i < n) := by
  rw [Bool.eq_iff_iff]
  unfold homeB joins
  rw [List.any_map, List.any_eq_true, decide_eq_true_eq]
  constructor
  · rintro ⟨j, hj, h⟩
    have hj2 := List.mem_range.1 hj
    unfold isHome at h
    simp only [Function.comp_apply, Bool.and_eq_true, beq_iff_eq] at h
    have := nameP_inj j (by omega) i hi h.2
    omega
  · intro h
    exact ⟨i, List.mem_range.2 h, by unfold isHome; simp⟩
theorem join_check (n : Nat) (hn : n ≤ 12) (i : Nat) (hi : i < 16) (hni : n ≤ i) : checkE (joins n) true ⟨0, 0, nameP i, 0⟩ = if n = 12 then 6 else 0 := by
  unfold checkE
  rw [joins_len, joins_home n i (by omega) hi, joins_people]
  simp only [Bool.not_true, Bool.false_eq_true, if_false]
  rw [if_neg (by omega)]
  have : decide (i < n) = false := by rw [decide_eq_false_iff_not]; omega
  rw [this]
  by_cases h : n = 12 <;> simp [h]
def pubs (j : Nat) : List K := List.replicate j ⟨1, 0, nameP 0, 0⟩
theorem pubs_succ (j : Nat) : pubs (j + 1) = pubs j ++ [⟨1, 0, nameP 0, 0⟩] := List.replicate_succ'
theorem pub_check (n j : Nat) (h0 : 0 < n) (hn : n ≤ 12) : checkE (joins n ++ pubs j) true ⟨1, 0, nameP 0, 0⟩ = if n + j = 40 then 6 else 0 := by
  unfold checkE
  have hl : (joins n ++ pubs j).length = n + j := by rw [List.length_append, joins_len]; unfold pubs; rw [List.length_replicate]
  have hh : homeB (joins n ++ pubs j) 0 (nameP 0) = true := by
    unfold homeB
    rw [List.any_append, Bool.or_eq_true]
    refine .inl ?_
    have := joins_home n 0 (by omega) (by omega)
    unfold homeB at this
    rw [this]; simpa using h0
  rw [hl, hh]
  simp only [Bool.not_true, Bool.false_eq_true, if_false]
  by_cases h : n + j = 40 <;> simp [h]
end Go.Proofs.Ytpbdgbejcdncgaa.Pol
end

section
/- RULES IN MEMORY: eight cells each; a log: a box that holds a row of its own. -/
namespace Go.Proofs.Ytpbdgbejcdncgaa.Pol
open Go.RowKit Flt Go.Proofs.Ytpbdgbejcdncgaa.Val
/-- a rule: what plays a part, and the rest -/
structure R where
  k : K
  br : Int
  sc : List UInt8
  c0 : Option Addr
  cn : Nat
  cc : Nat
  nm : List UInt8
instance : Inhabited R := ⟨⟨default, 0, [], none, 0, 0, []⟩⟩
abbrev rul (kd tn : Int) (who : List UInt8) (br : Int) (sc : List UInt8) (c0 : Option Addr) (cn cc : Nat) (nm : List UInt8) (pl : Int) : Value :=
  .agg #[.int .i64 kd, .int .i64 tn, .string ⟨who.toArray⟩, .int .i64 br, .string ⟨sc.toArray⟩, .slice c0 cn cc, .string ⟨nm.toArray⟩, .int .i64 pl]
abbrev rv (r : R) : Value := rul r.k.kind r.k.tenant r.k.who r.br r.sc r.c0 r.cn r.cc r.nm r.k.pl
def cells8 (r : R) : List Value := [.int .i64 r.k.kind, .int .i64 r.k.tenant, .string ⟨r.k.who.toArray⟩, .int .i64 r.br, .string ⟨r.sc.toArray⟩, .slice r.c0 r.cn r.cc, .string ⟨r.nm.toArray⟩, .int .i64 r.k.pl]
def flatR (l : List R) : List Value := l.flatMap cells8
theorem flatR_len (l : List R) : (flatR l).length = l.length * 8 := by
  induction l with
  | nil => rfl
  | cons v l ih => unfold flatR at *; rw [List.flatMap_cons, List.length_append, ih]; simp [cells8]; omega
theorem flatR_at : ∀ (l : List R) (i j : Nat) (hi : i < l.length), j < 8 → (flatR l)[i * 8 + j]? = (cells8 l[i])[j]?
  | v :: l, 0, j, _, hj => by
    unfold flatR; rw [List.flatMap_cons, List.getElem?_append_left (by simp [cells8]; omega)]; simp
  | v :: l, i + 1, j, hi, hj => by
    unfold flatR; rw [List.flatMap_cons, List.getElem?_append_right (by simp [cells8]; omega)]
    have e : (i + 1) * 8 + j - (cells8 v).length = i * 8 + j := by simp [cells8]; omega
    rw [e]
    exact flatR_at l i j (by simpa using hi) hj
theorem flatR_one (l : List R) : ∀ u ∈ flatR l, u.oneCell' = true := by
  intro u hu
  obtain ⟨v, _, hv⟩ := List.mem_flatMap.1 hu
  simp only [cells8, List.mem_cons, List.not_mem_nil, or_false] at hv
  rcases hv with rfl | rfl | rfl | rfl | rfl | rfl | rfl | rfl <;> rfl
theorem flatR_app (l : List R) (a : R) : flatR (l ++ [a]) = flatR l ++ flatR [a] := by simp [flatR]
def RAt (w : World) (p : Addr) (r : R) : Prop :=
  w.cell? p = some (.int .i64 r.k.kind) ∧ w.cell? ⟨p.block, p.off + 1, none⟩ = some (.int .i64 r.k.tenant) ∧ w.cell? ⟨p.block, p.off + 2, none⟩ = some (.string ⟨r.k.who.toArray⟩) ∧ w.cell? ⟨p.block, p.off + 3, none⟩ = some (.int .i64 r.br) ∧ w.cell? ⟨p.block, p.off + 4, none⟩ = some (.string ⟨r.sc.toArray⟩) ∧ w.cell? ⟨p.block, p.off + 5, none⟩ = some (.slice r.c0 r.cn r.cc) ∧ w.cell? ⟨p.block, p.off + 6, none⟩ = some (.string ⟨r.nm.toArray⟩) ∧ w.cell? ⟨p.block, p.off + 7, none⟩ = some (.int .i64 r.k.pl)
theorem RAt.below {w w2 : World} {p : Addr} {r : R} (h : RAt w p r) (hb : Below w.heap.size w w2) : RAt w2 p r := by
  obtain ⟨h0, h1, h2, h3, h4, h5, h6, h7⟩ := h
  have e : ∀ {q : Addr} {v : Value}, w.cell? q = some v → w2.cell? q = some v := fun h => (hb.cell (World.block_lt_of_cell? _ _ h)).trans h
  exact ⟨e h0, e h1, e h2, e h3, e h4, e h5, e h6, e h7⟩
def Rules (w : World) (a0 : Option Addr) (l : List R) : Prop := ∀ i (h : i < l.length), ∃ a, a0 = some a ∧ RAt w (a.add (i * 8)) l[i]
theorem Rules.below {w w2 : World} {a0 : Option Addr} {l : List R} (h : Rules w a0 l) (hb : Below w.heap.size w w2) : Rules w2 a0 l := fun i hi => by
  obtain ⟨a, e, h1⟩ := h i hi
  exact ⟨a, e, h1.below hb⟩
theorem own_rules {w : World} {v : Value} {l : List R} {base : Nat} (h : w.ownsRow base 28 8 v l.length (flatR l)) :
    ∃ b0 cap, v = .slice b0 l.length cap ∧ Rules w b0 l := by
  rcases h.2 with ⟨rfl, h0⟩ | ⟨g, cp, cur, rfl, hb, hg, hh⟩
  · have : l = [] := List.eq_nil_of_length_eq_zero h0
    subst this
    exact ⟨none, 0, rfl, fun i hi => absurd hi (Nat.not_lt_zero _)⟩
  · refine ⟨some ⟨g, 0, none⟩, cp, rfl, fun i hi => ⟨_, rfl, ?_⟩⟩
    have k : ∀ j (hj : j < 8), w.cell? ⟨g, i * 8 + j, none⟩ = (cells8 l[i])[j]? := by
      intro j hj
      have hm := flatR_at l i j hi hj
      have hc : (cells8 l[i])[j]? = some ((cells8 l[i])[j]'(by simpa [cells8] using hj)) := by simp
      rw [hc] at hm ⊢
      have := h.cells rfl (i * 8 + j) _ hm
      have hadd : (⟨g, 0, none⟩ : Addr).add (i * 8 + j) = ⟨g, i * 8 + j, none⟩ := by unfold Addr.add; split <;> simp_all
      rw [← hadd]; exact this
    have hadd : (⟨g, 0, none⟩ : Addr).add (i * 8) = ⟨g, i * 8, none⟩ := by unfold Addr.add; split <;> simp_all
    rw [hadd]
    exact ⟨k 0 (by omega), k 1 (by omega), k 2 (by omega), k 3 (by omega), k 4 (by omega), k 5 (by omega), k 6 (by omega), k 7 (by omega)⟩
/-- a log at a box, as it is read -/
def Log (w : World) (b : Nat) (a0 : Option Addr) (cap : Nat) (l : List R) : Prop := w.cell? ⟨b, 0, none⟩ = some (.slice a0 l.length cap) ∧ Rules w a0 l
theorem Log.below {w w2 : World} {b : Nat} {a0 : Option Addr} {cap : Nat} {l : List R} (h : Log w b a0 cap l) (hb : Below w.heap.size w w2) : Log w2 b a0 cap l :=
  ⟨(hb.cell (World.block_lt_of_cell? _ _ h.1)).trans h.1, h.2.below hb⟩
theorem Log.lt {w : World} {b : Nat} {a0 : Option Addr} {cap : Nat} {l : List R} (h : Log w b a0 cap l) : b < w.heap.size := World.block_lt_of_cell? _ _ h.1
def ks (l : List R) : List K := l.map R.k
theorem ks_len (l : List R) : (ks l).length = l.length := by simp [ks]
theorem ks_take (l : List R) (n : Nat) : ks (l.take n) = (ks l).take n := by simp [ks, List.map_take]
theorem ks_app (l m : List R) : ks (l ++ m) = ks l ++ ks m := by simp [ks]
theorem ks_get (l : List R) (i : Nat) (h : i < l.length) : (ks l)[i]! = l[i].k := by
  rw [getElem!_pos (ks l) i (by rw [ks_len]; exact h)]
  simp [ks]
end Go.Proofs.Ytpbdgbejcdncgaa.Pol
end

section
/- A WRITER OF BYTES: an event, a rule; the bytes of rules, events, messages. -/
namespace Go.Proofs.Ytpbdgbejcdncgaa.Wire
open Go.RowKit Flt Go.Proofs.Ytpbdgbejcdncgaa.Val Go.Lib
attribute [local go_sem] run_store_flt
def encAttr (a : A) : List UInt8 := encText a.name ++ encVal a.val.kind a.val.int a.val.num a.val.text a.val.yes
def encAttrs (l : List A) : List UInt8 := l.flatMap encAttr
def encEvent (sc : List UInt8) (l : List A) : List UInt8 := encText sc ++ [byteOf l.length] ++ encAttrs l
theorem encAttrs_succ (l : List A) (k : Nat) (h : k < l.length) : encAttrs (l.take (k + 1)) = encAttrs (l.take k) ++ encAttr l[k] := by
  unfold encAttrs
  rw [List.take_add_one, List.getElem?_eq_getElem h, List.flatMap_append]
  simp
theorem encAttrs_le (l : List A) (k : Nat) : (encAttrs (l.take k)).length ≤ (encAttrs l).length := by
  have : encAttrs l = encAttrs (l.take k) ++ encAttrs (l.drop k) := by
    unfold encAttrs
    rw [← List.flatMap_append, List.take_append_drop]
  rw [this, List.length_append]; omega
theorem aat_new (w : World) (c : A) (e : TypeId) : AAt (w.alloc (.cells #[.string ⟨c.name.toArray⟩, .int .i64 c.val.kind, .int .i64 c.val.int, .float .f64 c.val.num, .string ⟨c.val.text.toArray⟩, .bool c.val.yes] e)) ⟨w.heap.size, 0, none⟩ c := by
  have hc : ∀ o, (w.alloc (.cells #[.string ⟨c.name.toArray⟩, .int .i64 c.val.kind, .int .i64 c.val.int, .float .f64 c.val.num, .string ⟨c.val.text.toArray⟩, .bool c.val.yes] e)).cell? ⟨w.heap.size, o, none⟩ = #[.string ⟨c.name.toArray⟩, .int .i64 c.val.kind, .int .i64 c.val.int, .float .f64 c.val.num, .string ⟨c.val.text.toArray⟩, .bool c.val.yes][o]? := fun o => World.cell?_alloc_at _ _ _ _ rfl
  exact ⟨hc 0, hc 1, hc 2, hc 3, hc 4, hc 5⟩
set_option maxRecDepth 20000 in
set_option maxHeartbeats 4000000 in
theorem wevent_any (b : Nat) (s sf : List UInt8) (a0 : Option Addr) (cap : Nat) (l : List A) (w w0 : World) (h : Wr w b s) (hcl : Attrs w0 a0 l) (hb0 : Below w0.heap.size w0 w) (hle : w0.heap.size ≤ b) (hnum : ∀ c ∈ l, c.val.num < 18446744073709551616) (hl : s.length + (encEvent sf l).length ≤ 1000000) (hlm : l.length ≤ 1000000) :
    Calls Try.prog 33 #[.pointer (some ⟨b, 0, none⟩), ev sf a0 l.length cap] w fun e w' => e = .returned (.pointer (some ⟨b, 0, none⟩)) ∧ Wr w' b (s ++ encEvent sf l) ∧ Wrote b w w' := by
  have hlen : s.length + sf.length + 2 + (encAttrs l).length ≤ 1000000 := by
    unfold encEvent at hl
    simp only [List.length_append, encText_len, List.length_singleton] at hl
    omega
  clear hl
  have hcn : ∀ W, Wrote b w W → Attrs W a0 l := fun W hb => hcl.below (hb0.trans (hb.below h hle))
  have HWR := Lib.hid h; have HH := Lib.hid h
  have HCN := Lib.hid hcn; have HNUM := Lib.hid hnum
  clear h hcl hb0 hnum hle hcn
  go_enter Try.func33, Try.ntmps33
  go_upto_region 1 with fail
  replace HWR := Lib.hid (HWR.out.below (balloc w (.cells #[.string ⟨sf.toArray⟩, .slice a0 l.length cap] 31)))
  have hfr := HH.out.free_new (balloc w (.cells #[.string ⟨sf.toArray⟩, .slice a0 l.length cap] 31)) (Nat.le_refl _) (by simp)
  have hx0 := box2_new w sf a0 l.length cap 31
  have hwt0 := wrote_below HH.out.lt (balloc w (.cells #[.string ⟨sf.toArray⟩, .slice a0 l.length cap] 31))
  generalize w.alloc _ = W0 at *
  have hsall : ∀ W, Wrote b W0 W → (fun w' => w'.cell? ⟨w.heap.size, 0, none⟩ = some (.string ⟨sf.toArray⟩) ∧ w'.cell? ⟨w.heap.size, 1, none⟩ = some (.slice a0 l.length cap)) W := fun W hb => ⟨(hb.cell hfr 0).trans hx0.1, (hb.cell hfr 1).trans hx0.2⟩
  have HSALL := Lib.hid hsall; have HWT0 := Lib.hid hwt0; have HFR := Lib.hid hfr
  clear hsall hwt0 hfr hx0
  go_cut [15] (fun va wx => Hid (Wr wx b (s ++ encText sf ++ [byteOf l.length])) ∧ Hid (Wrote b W0 wx))
  case first =>
    clear HCN HNUM HH
    refine wp_region_held_drew (S := (fun w' => w'.cell? ⟨w.heap.size, 0, none⟩ = some (.string ⟨sf.toArray⟩) ∧ w'.cell? ⟨w.heap.size, 1, none⟩ = some (.slice a0 l.length cap))) (by kernel_rfl) ?_ (fun hq0 => ?_)
    · exact HSALL.out _ (wrote_drew b W0)
    have HBB : Hid (Wrote b W0 W0.drew) := Lib.hid (wrote_drew b W0)
    replace HWR := Lib.hid (wr_drew HWR.out)
    generalize W0.drew = D0 at *
    (refine wpAnyH_take (i := 0) (oi := ?_) (v := ?_) ?_ (by kernel_rfl) (by kernel_rfl) (by kernel_rfl) ?_ (Or.inl ⟨?_, ?_⟩) (by assumption) ?_; rotate_left 2; (· (simp only [List.getElem?_toArray, List.getElem?_cons_zero]; first | done | rfl)); (· exact (fun _ _ _ h => h)); (· rfl); (· (intro w hSw; (try dsimp only at hSw); go_simp; (try with_reducible rfl))))
    (try simp only [Act.put, List.setIfInBounds_toArray, List.set_cons_zero, List.set_cons_succ])
    (refine wpAnyH_take (i := 1) (oi := ?_) (v := ?_) ?_ (by kernel_rfl) (by kernel_rfl) (by kernel_rfl) ?_ (Or.inl ⟨?_, ?_⟩) (by assumption) ?_; rotate_left 2; (· (simp only [List.getElem?_toArray, List.getElem?_cons_succ, List.getElem?_cons_zero]; first | done | rfl)); (· exact (fun _ _ _ h => h)); (· rfl); (· (intro w hSw; (try dsimp only at hSw); go_simp; (try with_reducible rfl))))
    (try simp only [Act.put, List.setIfInBounds_toArray, List.set_cons_zero, List.set_cons_succ])
    (refine wpAnyH_take (i := 2) (oi := ?_) (v := ?_) ?_ (by kernel_rfl) (by kernel_rfl) (by kernel_rfl) ?_ (Or.inl ⟨?_, ?_⟩) (by assumption) ?_; rotate_left 2; (· (simp only [List.getElem?_toArray, List.getElem?_cons_succ, List.getElem?_cons_zero]; first | done | rfl)); (· exact (fun _ _ _ h => h)); (· rfl); (· (intro w hSw; (try dsimp only at hSw); go_simp; (try with_reducible rfl))))
    (try simp only [Act.put, List.setIfInBounds_toArray, List.set_cons_zero, List.set_cons_succ])
    (refine wpAnyH_take (i := 4) (oi := ?_) (v := ?_) ?_ (by kernel_rfl) (by kernel_rfl) (by kernel_rfl) ?_ (Or.inl ⟨?_, ?_⟩) (by assumption) ?_; rotate_left 2; (· (simp only [List.getElem?_toArray, List.getElem?_cons_succ, List.getElem?_cons_zero]; first | done | rfl)); (· exact (fun _ _ _ h => h)); (· rfl); (· (intro w hSw; (try dsimp only at hSw); go_simp; (try with_reducible rfl))))
    (try simp only [Act.put, List.setIfInBounds_toArray, List.set_cons_zero, List.set_cons_succ])
    (refine wpAnyH_take (i := 5) (oi := ?_) (v := ?_) ?_ (by kernel_rfl) (by kernel_rfl) (by kernel_rfl) ?_ (Or.inl ⟨?_, ?_⟩) (by assumption) ?_; rotate_left 2; (· (simp only [List.getElem?_toArray, List.getElem?_cons_succ, List.getElem?_cons_zero]; first | done | rfl)); (· exact (fun _ _ _ h => h)); (· rfl); (· (intro w hSw; (try dsimp only at hSw); go_simp; (try with_reducible rfl))))
    (try simp only [Act.put, List.setIfInBounds_toArray, List.set_cons_zero, List.set_cons_succ])
    (refine wpAnyH_take (i := 6) (oi := ?_) (v := ?_) ?_ (by kernel_rfl) (by kernel_rfl) (by kernel_rfl) ?_ (Or.inl ⟨?_, ?_⟩) (by assumption) ?_; rotate_left 2; (· (simp only [List.getElem?_toArray, List.getElem?_cons_succ, List.getElem?_cons_zero]; first | done | rfl)); (· exact (fun _ _ _ h => h)); (· rfl); (· (intro w hSw; (try dsimp only at hSw); go_simp; (try with_reducible rfl))))
    (try simp only [Act.put, List.setIfInBounds_toArray, List.set_cons_zero, List.set_cons_succ])
    refine wpAnyH_ready (rs := [3, 7]) (by kernel_rfl) (by simp) ?_
    refine AllReadyH.cons (o := ?_) ?_ (fun K hK => ?_) ?_
    rotate_left 1
    · (simp only [List.getElem?_toArray, List.getElem?_cons_succ, List.getElem?_cons_zero]; first | done | rfl)
    rotate_left 1
    refine AllReadyH.cons (o := ?_) ?_ (fun K hK => ?_) AllReadyH.nil
    rotate_left 1
    · (simp only [List.getElem?_toArray, List.getElem?_cons_succ, List.getElem?_cons_zero]; first | done | rfl)
    rotate_left 1
    · skip
      go_simp
      go_at_call 31
      refine (wtext_any b _ sf _ HWR.out (by omega)).mono ?_
      rintro e D1 ⟨rfl, hwr, hwt⟩
      first | (refine hK.out _ _ ?_ (fun hq1 => ?_)) | (go_wp2_with fail; refine hK.out _ _ ?_ (fun hq1 => ?_))
      · exact HSALL.out _ (HBB.out.trans hwt)
      clear hK K
      (try simp only [Act.put, List.setIfInBounds_toArray, List.set_cons_zero, List.set_cons_succ])
      clear hq0
      replace HBB := Lib.hid (HBB.out.trans hwt)
      replace HWR := Lib.hid hwr
      clear hwr hwt
      refine wpAnyH_ready (rs := [7]) (by kernel_rfl) (by simp) ?_
      refine AllReadyH.cons (o := ?_) ?_ (fun K hK => ?_) AllReadyH.nil
      rotate_left 1
      · (simp only [List.getElem?_toArray, List.getElem?_cons_succ, List.getElem?_cons_zero]; first | done | rfl)
      go_simp
      refine hK.out _ _ ?_ (fun hq2 => ?_)
      · exact HSALL.out _ (HBB.out.trans (wrote_below HWR.out.lt (balloc _ _)))
      clear hK K
      (try simp only [Act.put, List.setIfInBounds_toArray, List.set_cons_zero, List.set_cons_succ])
      clear hq1
      generalize hD : World.alloc D1 _ = D2 at hq2 ⊢
      have hb : Below D1.heap.size D1 D2 := by rw [← hD]; exact balloc _ _
      have Vp := Lib.hid (va_one (l.length : Int) 3 HWR.out); rw [hD] at Vp
      clear hD
      have ht := wrote_below HWR.out.lt hb
      replace HBB := Lib.hid (HBB.out.trans ht)
      replace HWR := Lib.hid (HWR.out.below hb)
      clear hb ht
      generalize D1.heap.size = p at *
      refine wpAnyH_ready (rs := [8]) (by kernel_rfl) (by simp) ?_
      refine AllReadyH.cons (o := ?_) ?_ (fun K hK => ?_) AllReadyH.nil
      rotate_left 1
      · (simp only [List.getElem?_toArray, List.getElem?_cons_succ, List.getElem?_cons_zero]; first | done | rfl)
      go_simp
      go_at_call 29
      refine (wbyte_va HWR.out Vp.out (by simp [encText_len]; omega)).mono ?_
      rintro e D3 ⟨rfl, hwr, hwt⟩
      first | (refine hK.out _ _ ?_ (fun hq3 => ?_)) | (go_wp2_with fail; refine hK.out _ _ ?_ (fun hq3 => ?_))
      · exact HSALL.out _ (HBB.out.trans hwt)
      clear hK K
      (try simp only [Act.put, List.setIfInBounds_toArray, List.set_cons_zero, List.set_cons_succ])
      clear hq2
      replace Vp := Lib.hid (Vp.out.wrote hwt)
      replace HBB := Lib.hid (HBB.out.trans hwt)
      replace HWR := Lib.hid hwr
      clear hwr hwt
      refine wpAnyH_done (by kernel_rfl) ?_ _
      go_wp2_with fail
      go_meet
      exact ⟨HWR, HBB⟩
    · skip
      go_simp
      refine hK.out _ _ ?_ (fun hq1 => ?_)
      · exact HSALL.out _ (HBB.out.trans (wrote_below HWR.out.lt (balloc _ _)))
      clear hK K
      (try simp only [Act.put, List.setIfInBounds_toArray, List.set_cons_zero, List.set_cons_succ])
      clear hq0
      generalize hD : World.alloc D0 _ = D4 at hq1 ⊢
      have hb : Below D0.heap.size D0 D4 := by rw [← hD]; exact balloc _ _
      have Vp := Lib.hid (va_one (l.length : Int) 3 HWR.out); rw [hD] at Vp
      clear hD
      have ht := wrote_below HWR.out.lt hb
      replace HBB := Lib.hid (HBB.out.trans ht)
      replace HWR := Lib.hid (HWR.out.below hb)
      clear hb ht
      generalize D0.heap.size = p at *
      refine wpAnyH_ready (rs := [3]) (by kernel_rfl) (by simp) ?_
      refine AllReadyH.cons (o := ?_) ?_ (fun K hK => ?_) AllReadyH.nil
      rotate_left 1
      · (simp only [List.getElem?_toArray, List.getElem?_cons_succ, List.getElem?_cons_zero]; first | done | rfl)
      go_simp
      go_at_call 31
      refine (wtext_any b _ sf _ HWR.out (by omega)).mono ?_
      rintro e D5 ⟨rfl, hwr, hwt⟩
      first | (refine hK.out _ _ ?_ (fun hq2 => ?_)) | (go_wp2_with fail; refine hK.out _ _ ?_ (fun hq2 => ?_))
      · exact HSALL.out _ (HBB.out.trans hwt)
      clear hK K
      (try simp only [Act.put, List.setIfInBounds_toArray, List.set_cons_zero, List.set_cons_succ])
      clear hq1
      replace Vp := Lib.hid (Vp.out.wrote hwt)
      replace HBB := Lib.hid (HBB.out.trans hwt)
      replace HWR := Lib.hid hwr
      clear hwr hwt
      refine wpAnyH_ready (rs := [8]) (by kernel_rfl) (by simp) ?_
      refine AllReadyH.cons (o := ?_) ?_ (fun K hK => ?_) AllReadyH.nil
      rotate_left 1
      · (simp only [List.getElem?_toArray, List.getElem?_cons_succ, List.getElem?_cons_zero]; first | done | rfl)
      go_simp
      go_at_call 29
      refine (wbyte_va HWR.out Vp.out (by simp [encText_len]; omega)).mono ?_
      rintro e D6 ⟨rfl, hwr, hwt⟩
      first | (refine hK.out _ _ ?_ (fun hq3 => ?_)) | (go_wp2_with fail; refine hK.out _ _ ?_ (fun hq3 => ?_))
      · exact HSALL.out _ (HBB.out.trans hwt)
      clear hK K
      (try simp only [Act.put, List.setIfInBounds_toArray, List.set_cons_zero, List.set_cons_succ])
      clear hq2
      replace Vp := Lib.hid (Vp.out.wrote hwt)
      replace HBB := Lib.hid (HBB.out.trans hwt)
      replace HWR := Lib.hid hwr
      clear hwr hwt
      refine wpAnyH_done (by kernel_rfl) ?_ _
      go_wp2_with fail
      go_meet
      exact ⟨HWR, HBB⟩
  case rest =>
    obtain ⟨HW1, HT1⟩ := hcut
    obtain ⟨x0, x1⟩ := HSALL.out _ HT1.out
    have HT2 := Lib.hid (HWT0.out.trans HT1.out)
    clear HWR HSALL HFR
    go_wp2_with fail
    go_loopw [19] (fun vi wr => ∃ k : Nat, k ≤ l.length ∧ vi = .int .i64 k ∧ Wr wr b (s ++ encText sf ++ [byteOf l.length] ++ encAttrs (l.take k)) ∧ Wrote b w wr) (fun vi _ => l.length - (RowKit.intOf vi).toNat)
    case atStart => exact ⟨0, Nat.zero_le _, rfl, by simpa [encAttrs] using HW1.out, HT2.out⟩
    case round =>
      obtain ⟨k, hk, rfl, hwr, hwt⟩ := hrel
      by_cases hlt : k < l.length
      · have i1 : (k : Int) < (l.length : Int) := by omega
        have i0 : (0 : Int) ≤ (k : Int) := by omega
        obtain ⟨a, rfl, v0, v1, v2, v3, v4, v5⟩ := (HCN.out _ hwt) k hlt
        have hnm := HNUM.out _ (List.getElem_mem hlt)
        have hsu := encAttrs_succ l k hlt
        have hle1 := encAttrs_le l (k + 1)
        have hla : (s ++ encText sf ++ [byteOf l.length] ++ encAttrs (l.take k)).length = s.length + sf.length + 2 + (encAttrs (l.take k)).length := by simp [encText_len]; omega
        rw [hsu, List.length_append] at hle1
        generalize l[k] = c at *
        generalize hS : s ++ encText sf ++ [byteOf l.length] ++ encAttrs (l.take k) = S at *
        have HSU := Lib.hid hsu; have HS := Lib.hid hS; have HWT := Lib.hid hwt; have HWQ := Lib.hid hwr
        obtain ⟨nm, ⟨k1, n1, x1', t1, y1⟩⟩ := c
        dsimp only at hnm v0 v1 v2 v3 v4 v5
        have hlc : S.length + nm.length + 1 + (encVal k1 n1 x1' t1 y1).length ≤ 1000000 := by
          unfold encAttr at hle1
          simp only [List.length_append, encText_len] at hle1
          omega
        clear hsu hS hwt hwr hle1 hla
        go_upto_region 5 with fail
        have hcat := aat_new wr ⟨nm, ⟨k1, n1, x1', t1, y1⟩⟩ 76
        dsimp only at hcat
        have hal := balloc wr (.cells #[.string ⟨nm.toArray⟩, .int .i64 k1, .int .i64 n1, .float .f64 x1', .string ⟨t1.toArray⟩, .bool y1] 76)
        have hsz : wr.heap.size < (wr.alloc (.cells #[.string ⟨nm.toArray⟩, .int .i64 k1, .int .i64 n1, .float .f64 x1', .string ⟨t1.toArray⟩, .bool y1] 76)).heap.size := by simp
        generalize World.alloc wr _ = W1 at *
        have hfr := HWQ.out.free_new hal (Nat.le_refl _) hsz
        have hwt1 := wrote_below HWQ.out.lt hal
        have hsall : ∀ W, Wrote b W1 W → (fun w' => w'.cell? ⟨wr.heap.size, 0, none⟩ = some (.string ⟨nm.toArray⟩) ∧ w'.cell? ⟨wr.heap.size, 1, none⟩ = some (.int .i64 k1) ∧ w'.cell? ⟨wr.heap.size, 2, none⟩ = some (.int .i64 n1) ∧ w'.cell? ⟨wr.heap.size, 3, none⟩ = some (.float .f64 x1') ∧ w'.cell? ⟨wr.heap.size, 4, none⟩ = some (.string ⟨t1.toArray⟩) ∧ w'.cell? ⟨wr.heap.size, 5, none⟩ = some (.bool y1)) W := fun W hb => ⟨(hb.cell hfr 0).trans hcat.1, (hb.cell hfr 1).trans hcat.2.1, (hb.cell hfr 2).trans hcat.2.2.1, (hb.cell hfr 3).trans hcat.2.2.2.1, (hb.cell hfr 4).trans hcat.2.2.2.2.1, (hb.cell hfr 5).trans hcat.2.2.2.2.2⟩
        have HSALL := Lib.hid hsall; have HWT1 := Lib.hid (HWT.out.trans hwt1); have HWR := Lib.hid (HWQ.out.below hal)
        clear hsall hwt1 hfr hcat hal hsz v0 v1 v2 v3 v4 v5 HWQ HWT
        refine wp_region_held_drew (S := (fun w' => w'.cell? ⟨wr.heap.size, 0, none⟩ = some (.string ⟨nm.toArray⟩) ∧ w'.cell? ⟨wr.heap.size, 1, none⟩ = some (.int .i64 k1) ∧ w'.cell? ⟨wr.heap.size, 2, none⟩ = some (.int .i64 n1) ∧ w'.cell? ⟨wr.heap.size, 3, none⟩ = some (.float .f64 x1') ∧ w'.cell? ⟨wr.heap.size, 4, none⟩ = some (.string ⟨t1.toArray⟩) ∧ w'.cell? ⟨wr.heap.size, 5, none⟩ = some (.bool y1))) (by kernel_rfl) ?_ (fun hq0 => ?_)
        · exact HSALL.out _ (wrote_drew b W1)
        have HBB : Hid (Wrote b W1 W1.drew) := Lib.hid (wrote_drew b W1)
        replace HWR := Lib.hid (wr_drew HWR.out)
        generalize W1.drew = D0 at *
        (refine wpAnyH_take (i := 0) (oi := ?_) (v := ?_) ?_ (by kernel_rfl) (by kernel_rfl) (by kernel_rfl) ?_ (Or.inl ⟨?_, ?_⟩) (by assumption) ?_; rotate_left 2; (· (simp only [List.getElem?_toArray, List.getElem?_cons_zero]; first | done | rfl)); (· exact (fun _ _ _ h => h)); (· rfl); (· (intro w hSw; (try dsimp only at hSw); go_simp; (try with_reducible rfl))))
        (try simp only [Act.put, List.setIfInBounds_toArray, List.set_cons_zero, List.set_cons_succ])
        (refine wpAnyH_take (i := 1) (oi := ?_) (v := ?_) ?_ (by kernel_rfl) (by kernel_rfl) (by kernel_rfl) ?_ (Or.inl ⟨?_, ?_⟩) (by assumption) ?_; rotate_left 2; (· (simp only [List.getElem?_toArray, List.getElem?_cons_succ, List.getElem?_cons_zero]; first | done | rfl)); (· exact (fun _ _ _ h => h)); (· rfl); (· (intro w hSw; (try dsimp only at hSw); go_simp; (try with_reducible rfl))))
        (try simp only [Act.put, List.setIfInBounds_toArray, List.set_cons_zero, List.set_cons_succ])
        (refine wpAnyH_take (i := 2) (oi := ?_) (v := ?_) ?_ (by kernel_rfl) (by kernel_rfl) (by kernel_rfl) ?_ (Or.inl ⟨?_, ?_⟩) (by assumption) ?_; rotate_left 2; (· (simp only [List.getElem?_toArray, List.getElem?_cons_succ, List.getElem?_cons_zero]; first | done | rfl)); (· exact (fun _ _ _ h => h)); (· rfl); (· (intro w hSw; (try dsimp only at hSw); go_simp; (try with_reducible rfl))))
        (try simp only [Act.put, List.setIfInBounds_toArray, List.set_cons_zero, List.set_cons_succ])
        (refine wpAnyH_take (i := 4) (oi := ?_) (v := ?_) ?_ (by kernel_rfl) (by kernel_rfl) (by kernel_rfl) ?_ (Or.inl ⟨?_, ?_⟩) (by assumption) ?_; rotate_left 2; (· (simp only [List.getElem?_toArray, List.getElem?_cons_succ, List.getElem?_cons_zero]; first | done | rfl)); (· exact (fun _ _ _ h => h)); (· rfl); (· (intro w hSw; (try dsimp only at hSw); go_simp; (try with_reducible rfl))))
        (try simp only [Act.put, List.setIfInBounds_toArray, List.set_cons_zero, List.set_cons_succ])
        (refine wpAnyH_take (i := 5) (oi := ?_) (v := ?_) ?_ (by kernel_rfl) (by kernel_rfl) (by kernel_rfl) ?_ (Or.inl ⟨?_, ?_⟩) (by assumption) ?_; rotate_left 2; (· (simp only [List.getElem?_toArray, List.getElem?_cons_succ, List.getElem?_cons_zero]; first | done | rfl)); (· exact (fun _ _ _ h => h)); (· rfl); (· (intro w hSw; (try dsimp only at hSw); go_simp; (try with_reducible rfl))))
        (try simp only [Act.put, List.setIfInBounds_toArray, List.set_cons_zero, List.set_cons_succ])
        refine wpAnyH_ready (rs := [3]) (by kernel_rfl) (by simp) ?_
        refine AllReadyH.cons (o := ?_) ?_ (fun K hK => ?_) AllReadyH.nil
        rotate_left 1
        · (simp only [List.getElem?_toArray, List.getElem?_cons_succ, List.getElem?_cons_zero]; first | done | rfl)
        go_simp
        go_at_call 31
        refine (wtext_any b _ nm _ HWR.out (by omega)).mono ?_
        rintro e D1 ⟨rfl, hwr, hwt⟩
        first | (refine hK.out _ _ ?_ (fun hq1 => ?_)) | (go_wp2_with fail; refine hK.out _ _ ?_ (fun hq1 => ?_))
        · exact HSALL.out _ (HBB.out.trans hwt)
        clear hK K
        (try simp only [Act.put, List.setIfInBounds_toArray, List.set_cons_zero, List.set_cons_succ])
        clear hq0
        replace HBB := Lib.hid (HBB.out.trans hwt)
        replace HWR := Lib.hid hwr
        clear hwr hwt
        refine wpAnyH_ready (rs := [6]) (by kernel_rfl) (by simp) ?_
        refine AllReadyH.cons (o := ?_) ?_ (fun K hK => ?_) AllReadyH.nil
        rotate_left 1
        · (simp only [List.getElem?_toArray, List.getElem?_cons_succ, List.getElem?_cons_zero]; first | done | rfl)
        go_simp
        go_at_call 37
        refine (wvalue_any b _ k1 n1 x1' t1 y1 _ HWR.out hnm (by simp [encText_len]; omega)).mono ?_
        rintro e D2 ⟨rfl, hwr, hwt⟩
        first | (refine hK.out _ _ ?_ (fun hq2 => ?_)) | (go_wp2_with fail; refine hK.out _ _ ?_ (fun hq2 => ?_))
        · exact HSALL.out _ (HBB.out.trans hwt)
        clear hK K
        (try simp only [Act.put, List.setIfInBounds_toArray, List.set_cons_zero, List.set_cons_succ])
        clear hq1
        replace HBB := Lib.hid (HBB.out.trans hwt)
        replace HWR := Lib.hid hwr
        clear hwr hwt
        refine wpAnyH_done (by kernel_rfl) ?_ _
        go_wp2_with fail
        exact ⟨⟨k + 1, by omega, by go_num, by rw [HSU.out, ← List.append_assoc, HS.out]; unfold encAttr; simpa only [List.append_assoc] using HWR.out, HWT1.out.trans HBB.out⟩, by simp [RowKit.intOf]; go_num⟩
      · have i1 : ¬ (k : Int) < (l.length : Int) := by omega
        obtain rfl : k = l.length := by omega
        rw [List.take_length] at hwr
        go_wp2_with fail
        go_ret
        refine ⟨rfl, ?_, hwt⟩
        unfold encEvent
        simpa only [List.append_assoc] using hwr
end Go.Proofs.Ytpbdgbejcdncgaa.Wire
end
