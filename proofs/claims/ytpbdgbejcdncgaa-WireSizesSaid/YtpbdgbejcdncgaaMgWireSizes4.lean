/- MERGED BY A PROGRAM OF MINE (mg.py) out of my own texts, in their order: RdS, PolRead, PolRight, Fit16, WPar, EvL, WSizes, OpenF, OpenE, Frame. -/
import Derived.Test.YtpbdgbejcdncgaaMgWireSizes3
import Derived.Test.YtpbdgbejcdncgaaFilM
import Derived.Test.YtpbdgbejcdncgaaNewOk
import Derived.Test.YtpbdgbejcdncgaaRightA
import Derived.Test.YtpbdgbejcdncgaaNew
import Derived.Test.YtpbdgbejcdncgaaOpenA
import Derived.Test.YtpbdgbejcdncgaaConds
import Derived.Test.YtpbdgbejcdncgaaRows
import Derived.WalkKit
import Derived.ProofKit
import Derived.OpenShut
import Derived.OpenVars

section
/- THE WALK OF wire.ReadMsg at subscriptions. -/
namespace Go.Proofs.Ytpbdgbejcdncgaa.Wire
open Go.RowKit Flt Go.Proofs.Ytpbdgbejcdncgaa.Val Go.Lib
attribute [local go_sem] run_store_flt
/-- how the read ended, and where its message lies -/
def SubEnd (W4 : World) (bm : Nat) (k : Int) (sf : List UInt8) (l : List C) (x : Option (List UInt8)) (w1 : World) : Prop :=
  x = some [] ∧ ∃ (c0 : Option Addr) (cp : Nat) (W : World), Below W4.heap.size W4 W ∧ RM (W4.heap.size + 1) bm W w1 ∧ BoxM w1 bm (msgS k sf c0 l.length cp) ∧ l.length ≤ cp ∧ Conds w1 c0 l ∧ (∀ a, c0 = some a → W4.heap.size < a.block) ∧ W4.heap.size + 1 < W.heap.size
set_option maxRecDepth 20000 in
set_option maxHeartbeats 4000000 in
theorem readmsg_sub (a0 : Option Addr) (cap : Nat) (c : UInt8) (t sf : List UInt8) (l : List C) (w : World) (hc : c = 1 ∨ c = 2) (hd : decFilter t = some ((sf, l), [])) (hr : fRight sf l = true)
    (hby : BytesAt w a0 (c :: t)) (hcap : (c :: t).length ≤ cap) (hcm : cap ≤ maxLen) (hn : a0 = none → cap = 0) (hlm : l.length ≤ 1000000) (hsf : sf.length ≤ 140737488351232) (hok : ∀ x ∈ l, x.name.length ≤ 140737488351232 ∧ x.val.text.length ≤ 140737488351232) :
    Calls Try.prog 6 #[.slice a0 (c :: t).length cap] w fun e w' => (∃ (c0 : Option Addr) (cp : Nat), e = .returned (.tuple #[.agg (msgL (c.toNat : Int) 0 0 0 [] 0 [] none 0 0 [] 0 sf c0 l.length cp [] none 0 0 0 [] 0), .bool true]) ∧ l.length ≤ cp ∧ Conds w' c0 l) ∧ Below w.heap.size w w' := by
  have hmf : ∀ (fn : Fn) (first cap : Array Value) (w : World), (Instr.makeFunc fn first cap).run Try.prog w = .ok (.func fn first cap) w := fun _ _ _ _ => rfl
  obtain ⟨k, hk, k0, k12⟩ : ∃ k : Int, (c.toNat : Int) = k ∧ (k == 0) = false ∧ ((k == 1) = true ∨ ((k == 1) = false ∧ (k == 2) = true)) := by
    rcases hc with rfl | rfl
    · exact ⟨1, rfl, rfl, .inl rfl⟩
    · exact ⟨2, rfl, rfl, .inr ⟨rfl, rfl⟩⟩
  have HBY := Lib.hid hby; have HN := Lib.hid hn; have HOK := Lib.hid hok
  clear hby hn hok
  go_enter Try.func6, Try.ntmps6
  go_upto_region 3 with fail
  have hp0 := boxm_new w msgZ 33 (by decide)
  have hp1 := boxm_new (w.alloc (.cells msgZ 33)) msgZ 33 (by decide)
  have hp2 := boxm_new ((w.alloc (.cells msgZ 33)).alloc (.cells msgZ 33)) #[.bool false] 4 (by decide)
  have hp3 := boxm_new (((w.alloc (.cells msgZ 33)).alloc (.cells msgZ 33)).alloc (.cells #[.bool false] 4)) #[.bool true] 4 (by decide)
  have hb4 : Below w.heap.size w ((((w.alloc (.cells msgZ 33)).alloc (.cells msgZ 33)).alloc (.cells #[.bool false] 4)).alloc (.cells #[.bool true] 4)) := btrans (balloc2 _ _ _) (balloc2 _ _ _)
  have hq0 := hp0.below (btrans (balloc _ (.cells msgZ 33)) (balloc2 _ (.cells #[.bool false] 4) (.cells #[.bool true] 4)))
  have hq1 := hp1.below (balloc2 _ (.cells #[.bool false] 4) (.cells #[.bool true] 4))
  have hq2 := hp2.below (balloc _ (.cells #[.bool true] 4))
  simp only [sizeA] at hq1 hq2 hp3
  have hs4 : ((((w.alloc (.cells msgZ 33)).alloc (.cells msgZ 33)).alloc (.cells #[.bool false] 4)).alloc (.cells #[.bool true] 4)).heap.size = w.heap.size + 4 := by simp
  clear hp0 hp1 hp2
  generalize World.alloc (World.alloc (World.alloc (World.alloc w _) _) _) _ = W4 at *
  obtain ⟨bm, hbm⟩ : ∃ bm, bm = w.heap.size + 1 := ⟨_, rfl⟩
  obtain ⟨br, hbr⟩ : ∃ br, br = w.heap.size + 1 + 1 := ⟨_, rfl⟩
  obtain ⟨bk, hbk⟩ : ∃ bk, bk = w.heap.size + 1 + 1 + 1 := ⟨_, rfl⟩
  rw [← hbk] at hp3 ⊢
  rw [← hbr] at hq2 ⊢
  rw [← hbm] at hq1 ⊢
  have o1 : w.heap.size < bm := by omega
  have o2 : bm < br := by omega
  have o3 : br < bk := by omega
  have o4 : bk < W4.heap.size := by omega
  clear hbm hbr hbk hs4
  have hread : Calls Try.prog 19 #[.slice a0 (c :: t).length cap, .func (Fn.func 20) #[] #[.pointer (some ⟨bm, 0, none⟩), .pointer (some ⟨br, 0, none⟩), .pointer (some ⟨bk, 0, none⟩)]] W4 fun e w' => ReadP (SubEnd W4 bm k sf l) W4.heap.size e w' := read_msg (B := w.heap.size) a0 cap (c :: t) ⟨bm, 0, none⟩ ⟨br, 0, none⟩ ⟨bk, 0, none⟩ W4 (SubEnd W4 bm k sf l) (fun W hbW hrd => by
    have hlt := hrd.lt
    refine (clo_sub (W4.heap.size + 1) bm br bk c t sf [] l W hrd hc hd (hq1.below hbW) (by omega) (by omega)).mono ?_
    rintro e w' ⟨rfl, c0, cp, h1, h2, h3, h4, h5, h6, h7⟩
    have hblk := h7.block W4.heap.size (by omega) (by omega) (by omega)
    rw [hk] at h1
    exact .inl ⟨[], rfl, h6, World.cell?_of_block (w := W) (a := ⟨W4.heap.size, 0, none⟩) hblk, World.frozen?_of_block (w := W) (a := ⟨W4.heap.size, 0, none⟩) hblk, rfl, c0, cp, W, hbW, h7, h1, h2, h3, fun a e => by have := h4 a e; omega, hlt⟩)
    ((HBY.out).below hb4) hcap hcm HN.out (by omega) (bytes_low HBY.out)
  have HREAD := Lib.hid hread; have HQ0 := Lib.hid hq0; have HQ2 := Lib.hid hq2; have HQ3 := Lib.hid hp3; have HB4 := Lib.hid hb4
  clear hread hq0 hq1 hq2 hp3 hb4
  go_upto_region 4 with (first | (go_at_call 19; refine HREAD.out.mono ?_; rintro e w5 ⟨ok, x, w1, rfl, ⟨rfl, c0, cp, W, hbW, hrm, hbx, hcp, hcs, hbl, hWl⟩, hok1, hrk⟩; (have hokt : ok = true := hok1.2 rfl); subst hokt; have hw1 : W.heap.size ≤ w1.heap.size := hrm.size; have HP1 := Lib.hid (((HQ0.out.below hbW).rm hrm (by omega) (by omega)).rk hrk (by omega)); have HP2 := Lib.hid (((HQ2.out.below hbW).rm hrm (by omega) (by omega)).rk hrk (by omega)); have HP3 := Lib.hid (((HQ3.out.below hbW).rm hrm (by omega) (by omega)).rk hrk (by omega)); have HPM := Lib.hid (hbx.rk hrk (by omega)); have xk : w5.cell? ⟨bk, 0, none⟩ = some (.bool true) := HP3.out.c 0 (by decide); have xr : w5.cell? ⟨br, 0, none⟩ = some (.bool false) := HP2.out.c 0 (by decide); have m0 : w5.cell? ⟨bm, 0, none⟩ = some (.int .i64 k) := HPM.out.c 0 (by rw [msgS_size]; decide); have m1 : w5.cell? ⟨bm, 1, none⟩ = some (.int .i64 0) := HPM.out.c 1 (by rw [msgS_size]; decide); have m2 : w5.cell? ⟨bm, 2, none⟩ = some (.int .i64 0) := HPM.out.c 2 (by rw [msgS_size]; decide); have m3 : w5.cell? ⟨bm, 3, none⟩ = some (.int .i64 0) := HPM.out.c 3 (by rw [msgS_size]; decide); have m4 : w5.cell? ⟨bm, 4, none⟩ = some (.string ⟨#[]⟩) := HPM.out.c 4 (by rw [msgS_size]; decide); have m5 : w5.cell? ⟨bm, 5, none⟩ = some (.int .i64 0) := HPM.out.c 5 (by rw [msgS_size]; decide); have m6 : w5.cell? ⟨bm, 6, none⟩ = some (.string ⟨#[]⟩) := HPM.out.c 6 (by rw [msgS_size]; decide); have m7 : w5.cell? ⟨bm, 7, none⟩ = some (.slice none 0 0) := HPM.out.c 7 (by rw [msgS_size]; decide); have m8 : w5.cell? ⟨bm, 8, none⟩ = some (.string ⟨#[]⟩) := HPM.out.c 8 (by rw [msgS_size]; decide); have m9 : w5.cell? ⟨bm, 9, none⟩ = some (.int .i64 0) := HPM.out.c 9 (by rw [msgS_size]; decide); have m10 : w5.cell? ⟨bm, 10, none⟩ = some (.string ⟨sf.toArray⟩) := HPM.out.c 10 (by rw [msgS_size]; decide); have m11 : w5.cell? ⟨bm, 11, none⟩ = some (.slice c0 l.length cp) := HPM.out.c 11 (by rw [msgS_size]; decide); have m12 : w5.cell? ⟨bm, 12, none⟩ = some (.string ⟨#[]⟩) := HPM.out.c 12 (by rw [msgS_size]; decide); have m13 : w5.cell? ⟨bm, 13, none⟩ = some (.slice none 0 0) := HPM.out.c 13 (by rw [msgS_size]; decide); have m14 : w5.cell? ⟨bm, 14, none⟩ = some (.int .i64 0) := HPM.out.c 14 (by rw [msgS_size]; decide); have m15 : w5.cell? ⟨bm, 15, none⟩ = some (.string ⟨#[]⟩) := HPM.out.c 15 (by rw [msgS_size]; decide); have m16 : w5.cell? ⟨bm, 16, none⟩ = some (.int .i64 0) := HPM.out.c 16 (by rw [msgS_size]; decide)) | fail)
  as_aux_lemma =>
    have hcs5 : Conds w5 c0 l := conds_keep hcs (fun a e p hp hlt => hrk.cell hlt (by rw [hp]; have := hbl a e; omega))
    have hright := right_sub k false sf c0 cp l w5 k0 k12 hcs5 hlm hsf HOK.out
    rw [hr] at hright
    have HRIGHT := Lib.hid hright; have HCS5 := Lib.hid hcs5
    have hb5 : Below w.heap.size w w5 := HB4.out.trans ((hbW.mono (by omega)).trans ((show Below w.heap.size W w1 from ⟨hrm.os, hrm.tape, hrm.output, hrm.size, fun p hp => hrm.block p (by have := hbW.size; omega) (by omega) (by omega)⟩).trans (hrk.below (by omega) (by have := hbW.size; omega))))
    have HB5 := Lib.hid hb5
    have HBL := Lib.hid (show ∀ a, c0 = some a → W4.heap.size < a.block from hbl)
    clear hright hcs5 hb5 hbW hrm hbx hcs hbl hrk hWl hok1 hw1
    go_upto_region 6 with (first | (go_at_call 27; refine HRIGHT.out.mono ?_; rintro e w6 ⟨rfl, hb6⟩; have HM6 := Lib.hid (HPM.out.below hb6).range; have HT6 := Lib.hid (HP1.out.below hb6).there) | fail)
    clear m0 m1 m2 m3 m4 m5 m6 m7 m8 m9 m10 m11 m12 m13 m14 m15 m16 xk xr
    as_aux_lemma =>
    refine wp_region_lit ?_
    refine wpList_load_mid rfl 33 _ rfl bm 0 rfl (msgS k sf c0 l.length cp).toList _ HM6.out Try.underlying33 rfl msg_info ?_
    refine wpList_store_mid rfl 33 _ _ rfl w.heap.size 0 (msgS k sf c0 l.length cp) rfl rfl HT6.out msg_info (msgS_one _ _ _ _ _) ?_
    have hrg := World.rangeAt_setCells_same w6 w.heap.size 0 (msgS k sf c0 l.length cp).toList HT6.out
    have hb9 := setCells_below w.heap.size (msgS k sf c0 l.length cp).toList 0 w6
    have hfar := fun (q : Addr) (hq : q.block ≠ w.heap.size) => World.cell?_setCells_out w.heap.size (msgS k sf c0 l.length cp).toList 0 w6 q (fun h1 => absurd h1 hq)
    generalize World.setCells w6 _ _ _ = W9 at *
    have hc9 : Conds W9 c0 l := conds_keep (HCS5.out.below hb6) (fun a e p hp _ => hfar p (by rw [hp]; have := HBL.out a e; omega))
    have HRG := Lib.hid hrg; have HB9 := Lib.hid hb9; have HC9 := Lib.hid hc9
    clear hrg hb9 hc9 hfar
    go_wp2_with fail
    refine msg_fin rfl rfl HRG.out ?_
    exact ⟨⟨c0, cp, by (first | (subst hk; rfl) | (simp only [hk]; done) | (trace_state; fail)), hcp, HC9.out⟩, (btrans HB5.out hb6).trans HB9.out⟩
end Go.Proofs.Ytpbdgbejcdncgaa.Wire
end

section
/- THE WALKS that read a log: of, Home, people, gone, Len. -/
namespace Go.Proofs.Ytpbdgbejcdncgaa.Pol
open Go.RowKit Flt Go.Proofs.Ytpbdgbejcdncgaa.Val
attribute [local go_sem] run_store_flt
theorem any_take_succ (p : K → Bool) (l : List K) (k : Nat) (h : k < l.length) : (l.take (k + 1)).any p = ((l.take k).any p || p l[k]!) := by
  rw [getElem!_pos l k h, List.take_add_one, List.getElem?_eq_getElem h]
  show (l.take k ++ [l[k]]).any p = _
  rw [List.any_append]
  simp
theorem count_take_succ (p : K → Bool) (l : List K) (k : Nat) (h : k < l.length) : (l.take (k + 1)).countP p = (l.take k).countP p + (if p l[k]! then 1 else 0) := by
  rw [getElem!_pos l k h, List.take_add_one, List.getElem?_eq_getElem h]
  show (l.take k ++ [l[k]]).countP p = _
  rw [List.countP_append, List.countP_singleton]
theorem any_hit (p : K → Bool) (l : List K) (k : Nat) (h : k < l.length) (hp : p l[k]! = true) : l.any p = true := by
  rw [getElem!_pos l k h] at hp
  exact List.any_eq_true.2 ⟨_, List.getElem_mem h, hp⟩
theorem any_drop_cons (p : K → Bool) (l : List K) (j : Nat) (h : j < l.length) : (l.drop j).any p = (p l[j]! || (l.drop (j + 1)).any p) := by
  rw [getElem!_pos l j h, List.drop_eq_getElem_cons h, List.any_cons]
/-- a struct result's cell: eight cells written at once -/
theorem set8_at (w : World) (b : Nat) (v0 v1 v2 v3 v4 v5 v6 v7 : Value) (h : ∀ j, j < 8 → (w.cell? ⟨b, j, none⟩).isSome = true) :
    ∃ W2, W2 = ((((((((w.setCell ⟨b, 0, none⟩ v0).setCell ⟨b, 1, none⟩ v1).setCell ⟨b, 2, none⟩ v2).setCell ⟨b, 3, none⟩ v3).setCell ⟨b, 4, none⟩ v4).setCell ⟨b, 5, none⟩ v5).setCell ⟨b, 6, none⟩ v6).setCell ⟨b, 7, none⟩ v7) ∧
    W2.cell? ⟨b, 0, none⟩ = some v0 ∧ W2.cell? ⟨b, 1, none⟩ = some v1 ∧ W2.cell? ⟨b, 2, none⟩ = some v2 ∧ W2.cell? ⟨b, 3, none⟩ = some v3 ∧ W2.cell? ⟨b, 4, none⟩ = some v4 ∧ W2.cell? ⟨b, 5, none⟩ = some v5 ∧ W2.cell? ⟨b, 6, none⟩ = some v6 ∧ W2.cell? ⟨b, 7, none⟩ = some v7 ∧ Below b w W2 := by
  have e := World.cell?_setCells_in b [v0, v1, v2, v3, v4, v5, v6, v7] 0 w (fun j hj => by rw [Nat.zero_add]; exact h j hj)
  exact ⟨_, rfl, e 0 (by simp), e 1 (by simp), e 2 (by simp), e 3 (by simp), e 4 (by simp), e 5 (by simp), e 6 (by simp), e 7 (by simp),
    ((((((((Below.refl b w).setCell (Nat.le_refl _) _).setCell (Nat.le_refl _) _).setCell (Nat.le_refl _) _).setCell (Nat.le_refl _) _).setCell (Nat.le_refl _) _).setCell (Nat.le_refl _) _).setCell (Nat.le_refl _) _).setCell (Nat.le_refl _) _⟩
theorem isSome_alloc8 (w : World) (v0 v1 v2 v3 v4 v5 v6 v7 : Value) (T : TypeId) : ∀ j, j < 8 → ((w.alloc (.cells #[v0, v1, v2, v3, v4, v5, v6, v7] T)).cell? ⟨w.heap.size, j, none⟩).isSome = true := fun j hj => by
  rw [World.cell?_alloc_at _ _ _ _ rfl, Array.getElem?_eq_getElem (by exact hj)]; rfl
def noR : R := ⟨⟨0, 0, [], 0⟩, 0, [], none, 0, 0, []⟩
end Go.Proofs.Ytpbdgbejcdncgaa.Pol
end

section
/- THE WALK OF acl.Right. -/
namespace Go.Proofs.Ytpbdgbejcdncgaa.Pol
open Go.RowKit Flt Go.Proofs.Ytpbdgbejcdncgaa.Val
attribute [local go_sem] run_store_flt
/-- may it be a rule (cs: its conditions)? -/
def aclB (r : R) (cs : List C) : Bool :=
  if r.k.kind == 4 then decide (0 ≤ r.k.pl)
  else if decide (r.k.kind < 0) || decide (4 < r.k.kind) || decide (r.k.tenant < 0) || decide (4 ≤ r.k.tenant) || !Sc.nameB r.k.who then false
  else if r.k.kind == 0 then decide (0 ≤ r.br) && decide (r.br < 6)
  else if r.k.kind == 3 then Sc.nameB r.nm && Sc.rightB r.sc
  else fRight r.sc cs
set_option maxRecDepth 20000 in
set_option maxHeartbeats 4000000 in
theorem right_any (r : R) (cs : List C) (w : World) (hc : Conds w r.c0 cs) (hn : r.cn = cs.length) (hlm : cs.length ≤ 1000000)
    (hsc : r.sc.length ≤ 140737488351232) (hw : r.k.who.length ≤ 140737488351232) (hnm : r.nm.length ≤ 140737488351232) (hok : ∀ c ∈ cs, c.name.length ≤ 140737488351232 ∧ c.val.text.length ≤ 140737488351232) :
    Calls Try.prog 10 #[rv r] w fun e w' => e = .returned (.bool (aclB r cs)) ∧ Below w.heap.size w w' := by
  have hr : aclB r cs = (if r.k.kind == 4 then decide (0 ≤ r.k.pl)
    else if decide (r.k.kind < 0) || decide (4 < r.k.kind) || decide (r.k.tenant < 0) || decide (4 ≤ r.k.tenant) || !Sc.nameB r.k.who then false
    else if r.k.kind == 0 then decide (0 ≤ r.br) && decide (r.br < 6)
    else if r.k.kind == 3 then Sc.nameB r.nm && Sc.rightB r.sc
    else fRight r.sc cs) := rfl
  obtain ⟨⟨kd, tn, who, pl⟩, br, sc, c0, cn, cc, nm⟩ := r
  dsimp only at *
  subst hn
  have hfr (W : World) (h : Conds W c0 cs) := fright_any sc c0 cc cs W h hlm hsc hok
  have hnw (W : World) := Sc.name_any ⟨who.toArray⟩ W (by show who.length ≤ _; unfold maxLen; omega)
  have hnn (W : World) := Sc.name_any ⟨nm.toArray⟩ W (by show nm.length ≤ _; unfold maxLen; omega)
  have hss (W : World) := Sc.right_l sc W hsc
  have ew : (⟨who.toArray⟩ : ByteArray).data.toList = who := by simp
  have en : (⟨nm.toArray⟩ : ByteArray).data.toList = nm := by simp
  rw [ew] at hnw; rw [en] at hnn
  generalize Sc.nameB who = nw at *
  generalize Sc.nameB nm = nn at *
  generalize Sc.rightB sc = sr at *
  generalize fRight sc cs = fr at *
  generalize aclB _ cs = RES at *
  have HC := Lib.hid hc; have HR := Lib.hid hr; have HFR := Lib.hid hfr; have HNW := Lib.hid hnw; have HNN := Lib.hid hnn; have HSS := Lib.hid hss
  clear hc hr hfr hnw hnn hss ew en hok hlm
  cases k4 : (kd == 4)
  rotate_left
  · go_enter Try.func10, Try.ntmps10
    go_wp2_with fail
    go_ret
    exact ⟨ret_bool (by rw [HR.out, k4]; rfl), by repeat (first | assumption | (with_reducible exact Below.refl _ _) | exact balloc _ _ | exact balloc2 _ _ _ | refine btrans ?_ (by assumption) | refine btrans ?_ (balloc _ _))⟩
  by_cases a0 : kd < 0
  · go_enter Try.func10, Try.ntmps10
    go_wp2_with (first | (go_at_call 17; ((with_reducible refine (HNW.out _).mono ?_) ; rintro e w1 ⟨rfl, rfl⟩)) | (go_at_call 17; ((with_reducible refine (HNN.out _).mono ?_) ; rintro e w1 ⟨rfl, rfl⟩)) | (go_at_call 18; refine (HSS.out _).mono ?_; rintro e w2 ⟨rfl, ⟨nd, rfl⟩⟩) | (go_at_call 12; refine (HFR.out _ (HC.out.below (by repeat (first | assumption | (with_reducible exact Below.refl _ _) | exact balloc _ _ | exact balloc2 _ _ _ | refine btrans ?_ (by assumption) | refine btrans ?_ (balloc _ _))))).mono ?_; rintro e w2 ⟨rfl, hb2⟩) | fail)
    all_goals first | omega | (go_ret; refine ⟨ret_bool (by rw [HR.out, k4, decide_eq_true a0]; rfl), ?_⟩; first | exact bdrewN (balloc _ _) nd | exact (by repeat (first | assumption | (with_reducible exact Below.refl _ _) | exact balloc _ _ | exact balloc2 _ _ _ | refine btrans ?_ (by assumption) | refine btrans ?_ (balloc _ _))))
  by_cases a1 : 4 < kd
  · go_enter Try.func10, Try.ntmps10
    go_wp2_with (first | (go_at_call 17; ((with_reducible refine (HNW.out _).mono ?_) ; rintro e w1 ⟨rfl, rfl⟩)) | (go_at_call 17; ((with_reducible refine (HNN.out _).mono ?_) ; rintro e w1 ⟨rfl, rfl⟩)) | (go_at_call 18; refine (HSS.out _).mono ?_; rintro e w2 ⟨rfl, ⟨nd, rfl⟩⟩) | (go_at_call 12; refine (HFR.out _ (HC.out.below (by repeat (first | assumption | (with_reducible exact Below.refl _ _) | exact balloc _ _ | exact balloc2 _ _ _ | refine btrans ?_ (by assumption) | refine btrans ?_ (balloc _ _))))).mono ?_; rintro e w2 ⟨rfl, hb2⟩) | fail)
    all_goals first | omega | (go_ret; refine ⟨ret_bool (by rw [HR.out, k4, decide_eq_true a1]; simp), ?_⟩; first | exact bdrewN (balloc _ _) nd | exact (by repeat (first | assumption | (with_reducible exact Below.refl _ _) | exact balloc _ _ | exact balloc2 _ _ _ | refine btrans ?_ (by assumption) | refine btrans ?_ (balloc _ _))))
  by_cases b0 : tn < 0
  · go_enter Try.func10, Try.ntmps10
    go_wp2_with (first | (go_at_call 17; ((with_reducible refine (HNW.out _).mono ?_) ; rintro e w1 ⟨rfl, rfl⟩)) | (go_at_call 17; ((with_reducible refine (HNN.out _).mono ?_) ; rintro e w1 ⟨rfl, rfl⟩)) | (go_at_call 18; refine (HSS.out _).mono ?_; rintro e w2 ⟨rfl, ⟨nd, rfl⟩⟩) | (go_at_call 12; refine (HFR.out _ (HC.out.below (by repeat (first | assumption | (with_reducible exact Below.refl _ _) | exact balloc _ _ | exact balloc2 _ _ _ | refine btrans ?_ (by assumption) | refine btrans ?_ (balloc _ _))))).mono ?_; rintro e w2 ⟨rfl, hb2⟩) | fail)
    all_goals first | omega | (go_ret; refine ⟨ret_bool (by rw [HR.out, k4, decide_eq_true b0]; simp), ?_⟩; first | exact bdrewN (balloc _ _) nd | exact (by repeat (first | assumption | (with_reducible exact Below.refl _ _) | exact balloc _ _ | exact balloc2 _ _ _ | refine btrans ?_ (by assumption) | refine btrans ?_ (balloc _ _))))
  by_cases b1 : 4 ≤ tn
  · go_enter Try.func10, Try.ntmps10
    go_wp2_with (first | (go_at_call 17; ((with_reducible refine (HNW.out _).mono ?_) ; rintro e w1 ⟨rfl, rfl⟩)) | (go_at_call 17; ((with_reducible refine (HNN.out _).mono ?_) ; rintro e w1 ⟨rfl, rfl⟩)) | (go_at_call 18; refine (HSS.out _).mono ?_; rintro e w2 ⟨rfl, ⟨nd, rfl⟩⟩) | (go_at_call 12; refine (HFR.out _ (HC.out.below (by repeat (first | assumption | (with_reducible exact Below.refl _ _) | exact balloc _ _ | exact balloc2 _ _ _ | refine btrans ?_ (by assumption) | refine btrans ?_ (balloc _ _))))).mono ?_; rintro e w2 ⟨rfl, hb2⟩) | fail)
    all_goals first | omega | (go_ret; refine ⟨ret_bool (by rw [HR.out, k4, decide_eq_true b1]; simp), ?_⟩; first | exact bdrewN (balloc _ _) nd | exact (by repeat (first | assumption | (with_reducible exact Below.refl _ _) | exact balloc _ _ | exact balloc2 _ _ _ | refine btrans ?_ (by assumption) | refine btrans ?_ (balloc _ _))))
  have d0 : decide (kd < 0) = false := decide_eq_false a0
  have d1 : decide (4 < kd) = false := decide_eq_false a1
  have d2 : decide (tn < 0) = false := decide_eq_false b0
  have d3 : decide (4 ≤ tn) = false := decide_eq_false b1
  have HR2 := Lib.hid (show RES = (if !nw then false else if kd == 0 then decide (0 ≤ br) && decide (br < 6) else if kd == 3 then nn && sr else fr) from by rw [HR.out, k4, d0, d1, d2, d3]; rfl)
  clear HR
  cases nw
  · go_enter Try.func10, Try.ntmps10
    go_wp2_with (first | (go_at_call 17; ((with_reducible refine (HNW.out _).mono ?_) ; rintro e w1 ⟨rfl, rfl⟩)) | (go_at_call 17; ((with_reducible refine (HNN.out _).mono ?_) ; rintro e w1 ⟨rfl, rfl⟩)) | (go_at_call 18; refine (HSS.out _).mono ?_; rintro e w2 ⟨rfl, ⟨nd, rfl⟩⟩) | (go_at_call 12; refine (HFR.out _ (HC.out.below (by repeat (first | assumption | (with_reducible exact Below.refl _ _) | exact balloc _ _ | exact balloc2 _ _ _ | refine btrans ?_ (by assumption) | refine btrans ?_ (balloc _ _))))).mono ?_; rintro e w2 ⟨rfl, hb2⟩) | fail)
    all_goals first | omega | (go_ret; refine ⟨ret_bool (by rw [HR2.out]; rfl), ?_⟩; first | exact bdrewN (balloc _ _) nd | exact (by repeat (first | assumption | (with_reducible exact Below.refl _ _) | exact balloc _ _ | exact balloc2 _ _ _ | refine btrans ?_ (by assumption) | refine btrans ?_ (balloc _ _))))
  cases k0 : (kd == 0)
  rotate_left
  · by_cases r0 : 0 ≤ br
    · go_enter Try.func10, Try.ntmps10
      go_wp2_with (first | (go_at_call 17; ((with_reducible refine (HNW.out _).mono ?_) ; rintro e w1 ⟨rfl, rfl⟩)) | (go_at_call 17; ((with_reducible refine (HNN.out _).mono ?_) ; rintro e w1 ⟨rfl, rfl⟩)) | (go_at_call 18; refine (HSS.out _).mono ?_; rintro e w2 ⟨rfl, ⟨nd, rfl⟩⟩) | (go_at_call 12; refine (HFR.out _ (HC.out.below (by repeat (first | assumption | (with_reducible exact Below.refl _ _) | exact balloc _ _ | exact balloc2 _ _ _ | refine btrans ?_ (by assumption) | refine btrans ?_ (balloc _ _))))).mono ?_; rintro e w2 ⟨rfl, hb2⟩) | fail)
      all_goals first | omega | (go_ret; refine ⟨ret_bool (by rw [HR2.out, k0, decide_eq_true r0]; rfl), ?_⟩; first | exact bdrewN (balloc _ _) nd | exact (by repeat (first | assumption | (with_reducible exact Below.refl _ _) | exact balloc _ _ | exact balloc2 _ _ _ | refine btrans ?_ (by assumption) | refine btrans ?_ (balloc _ _))))
    · go_enter Try.func10, Try.ntmps10
      go_wp2_with (first | (go_at_call 17; ((with_reducible refine (HNW.out _).mono ?_) ; rintro e w1 ⟨rfl, rfl⟩)) | (go_at_call 17; ((with_reducible refine (HNN.out _).mono ?_) ; rintro e w1 ⟨rfl, rfl⟩)) | (go_at_call 18; refine (HSS.out _).mono ?_; rintro e w2 ⟨rfl, ⟨nd, rfl⟩⟩) | (go_at_call 12; refine (HFR.out _ (HC.out.below (by repeat (first | assumption | (with_reducible exact Below.refl _ _) | exact balloc _ _ | exact balloc2 _ _ _ | refine btrans ?_ (by assumption) | refine btrans ?_ (balloc _ _))))).mono ?_; rintro e w2 ⟨rfl, hb2⟩) | fail)
      all_goals first | omega | (go_ret; refine ⟨ret_bool (by rw [HR2.out, k0, show decide (0 ≤ br) = false from decide_eq_false (by omega)]; rfl), ?_⟩; first | exact bdrewN (balloc _ _) nd | exact (by repeat (first | assumption | (with_reducible exact Below.refl _ _) | exact balloc _ _ | exact balloc2 _ _ _ | refine btrans ?_ (by assumption) | refine btrans ?_ (balloc _ _))))
  cases k3 : (kd == 3)
  · go_enter Try.func10, Try.ntmps10
    go_wp2_with (first | (go_at_call 17; ((with_reducible refine (HNW.out _).mono ?_) ; rintro e w1 ⟨rfl, rfl⟩)) | (go_at_call 17; ((with_reducible refine (HNN.out _).mono ?_) ; rintro e w1 ⟨rfl, rfl⟩)) | (go_at_call 18; refine (HSS.out _).mono ?_; rintro e w2 ⟨rfl, ⟨nd, rfl⟩⟩) | (go_at_call 12; refine (HFR.out _ (HC.out.below (by repeat (first | assumption | (with_reducible exact Below.refl _ _) | exact balloc _ _ | exact balloc2 _ _ _ | refine btrans ?_ (by assumption) | refine btrans ?_ (balloc _ _))))).mono ?_; rintro e w2 ⟨rfl, hb2⟩) | fail)
    all_goals first | omega | (go_ret; refine ⟨ret_bool (by rw [HR2.out, k0, k3]; rfl), ?_⟩; first | exact bdrewN (balloc _ _) nd | exact (by repeat (first | assumption | (with_reducible exact Below.refl _ _) | exact balloc _ _ | exact balloc2 _ _ _ | refine btrans ?_ (by assumption) | refine btrans ?_ (balloc _ _))))
  cases nn
  · go_enter Try.func10, Try.ntmps10
    go_wp2_with (first | (go_at_call 17; ((with_reducible refine (HNW.out _).mono ?_) ; rintro e w1 ⟨rfl, rfl⟩)) | (go_at_call 17; ((with_reducible refine (HNN.out _).mono ?_) ; rintro e w1 ⟨rfl, rfl⟩)) | (go_at_call 18; refine (HSS.out _).mono ?_; rintro e w2 ⟨rfl, ⟨nd, rfl⟩⟩) | (go_at_call 12; refine (HFR.out _ (HC.out.below (by repeat (first | assumption | (with_reducible exact Below.refl _ _) | exact balloc _ _ | exact balloc2 _ _ _ | refine btrans ?_ (by assumption) | refine btrans ?_ (balloc _ _))))).mono ?_; rintro e w2 ⟨rfl, hb2⟩) | fail)
    all_goals first | omega | (go_ret; refine ⟨ret_bool (by rw [HR2.out, k0, k3]; rfl), ?_⟩; first | exact bdrewN (balloc _ _) nd | exact (by repeat (first | assumption | (with_reducible exact Below.refl _ _) | exact balloc _ _ | exact balloc2 _ _ _ | refine btrans ?_ (by assumption) | refine btrans ?_ (balloc _ _))))
  · go_enter Try.func10, Try.ntmps10
    go_wp2_with (first | (go_at_call 17; ((with_reducible refine (HNW.out _).mono ?_) ; rintro e w1 ⟨rfl, rfl⟩)) | (go_at_call 17; ((with_reducible refine (HNN.out _).mono ?_) ; rintro e w1 ⟨rfl, rfl⟩)) | (go_at_call 18; refine (HSS.out _).mono ?_; rintro e w2 ⟨rfl, ⟨nd, rfl⟩⟩) | (go_at_call 12; refine (HFR.out _ (HC.out.below (by repeat (first | assumption | (with_reducible exact Below.refl _ _) | exact balloc _ _ | exact balloc2 _ _ _ | refine btrans ?_ (by assumption) | refine btrans ?_ (balloc _ _))))).mono ?_; rintro e w2 ⟨rfl, hb2⟩) | fail)
    all_goals first | omega | (go_ret; refine ⟨ret_bool (by rw [HR2.out, k0, k3]; rfl), ?_⟩; first | exact bdrewN (balloc _ _) nd | exact (by repeat (first | assumption | (with_reducible exact Below.refl _ _) | exact balloc _ _ | exact balloc2 _ _ _ | refine btrans ?_ (by assumption) | refine btrans ?_ (balloc _ _))))
end Go.Proofs.Ytpbdgbejcdncgaa.Pol
end

section
/- THE WALK OF the fit of chapter 16's laws. -/
namespace Go.Proofs.Ytpbdgbejcdncgaa.Wire
open Go.RowKit Flt Go.Proofs.Ytpbdgbejcdncgaa.Val Go.Lib
attribute [local go_sem] run_store_flt
theorem conds_no (w : World) (a : Option Addr) : Conds w a [] := fun i hi => absurd hi (by simp)
theorem read_fit (w : World) (b : Nat) (T : TypeId) (hb : b = w.heap.size) :
    Calls Try.prog 6 #[.slice (some ⟨b, 0, none⟩) 3 3] (w.alloc (.cells #[.int .u8 1, .int .u8 0, .int .u8 0] T)) fun e w' => ∃ (c0 : Option Addr) (cp : Nat), e = .returned (.tuple #[.agg (msgL 1 0 0 0 [] 0 [] none 0 0 [] 0 [] c0 0 cp [] none 0 0 0 [] 0), .bool true]) ∧ Below w.heap.size w w' := by
  subst hb
  have hby : BytesAt (w.alloc (.cells #[.int .u8 1, .int .u8 0, .int .u8 0] T)) (some ⟨w.heap.size, 0, none⟩) [1, 0, 0] := by
    intro i hi
    have c : ∀ o, (w.alloc (.cells #[.int .u8 1, .int .u8 0, .int .u8 0] T)).cell? ⟨w.heap.size, o, none⟩ = #[Value.int .u8 1, .int .u8 0, .int .u8 0][o]? := fun o => World.cell?_alloc_at _ _ _ _ rfl
    refine ⟨_, rfl, ?_⟩
    rcases i with _ | _ | _ | i
    · exact c 0
    · exact c 1
    · exact c 2
    · simp only [List.length_cons, List.length_nil] at hi; omega
  have h := readmsg_sub (some ⟨w.heap.size, 0, none⟩) 3 1 [0, 0] [] [] _ (.inl rfl) (by rfl) (by rfl) hby (by decide) (by decide) (fun h => by cases h) (by decide) (by decide) (by simp)
  refine h.mono ?_
  rintro e w' ⟨⟨c0, cp, rfl, _, _⟩, hb⟩
  exact ⟨c0, cp, rfl, btrans (balloc _ _) hb⟩
theorem msg_fit (c0 : Option Addr) (cp : Nat) (w : World) :
    Calls Try.prog 8 #[.agg (msgL 1 0 0 0 [] 0 [] none 0 0 [] 0 [] c0 0 cp [] none 0 0 0 [] 0)] w fun e w' => ∃ a c, e = .returned (.slice a 3 c) ∧ Below w.heap.size w w' := by
  refine (msg_sub ⟨1, 0, ⟨⟨0, 0, [], 0⟩, 0, [], none, 0, 0, []⟩, [], c0, 0, cp, [], none, 0, 0, 0, [], 0⟩ [] w (by show (1 : Int) ≠ 0; decide) (by show (1 : Int) ≠ 3; decide) (conds_no _ _) rfl (by simp) (by show 1 + (encFilter [] []).length ≤ 1000000; decide) (by decide)).mono ?_
  rintro e w' ⟨⟨a, c, rfl, _⟩, hb⟩
  exact ⟨a, c, rfl, hb⟩
theorem right_fit (w : World) : Calls Try.prog 10 #[Pol.rv ⟨⟨4, 0, [], 0⟩, 0, [], none, 0, 0, []⟩] w fun e w' => e = .returned (.bool true) ∧ Below w.heap.size w w' :=
  Pol.right_any ⟨⟨4, 0, [], 0⟩, 0, [], none, 0, 0, []⟩ [] w (conds_no _ _) rfl (by decide) (by decide) (by decide) (by decide) (by simp)
theorem event_fit (w : World) : Calls Try.prog 16 #[ev [] none 0 0] w fun e w' => ∃ a c, e = .returned (.slice a 2 c) ∧ Below w.heap.size w w' := by
  refine (eventb_any [] none 0 [] w (fun i hi => absurd hi (by simp)) (by simp) (by decide) (by decide)).mono ?_
  rintro e w' ⟨⟨a, c, rfl, _⟩, hb⟩
  exact ⟨a, c, rfl, hb⟩
set_option maxRecDepth 20000 in
set_option maxHeartbeats 4000000 in
theorem fit16_any (w : World) : Calls Try.prog 5 #[] w fun e w' => e = .returned (.bool true) ∧ Below w.heap.size w w' := by
  have n1 : Sc.nameB [97] = true := by decide
  have n2 : Sc.rightB [] = true := by decide
  go_enter Try.func5, Try.ntmps5
  go_wp2_with fail
  refine (read_fit _ _ _ (by simp)).mono ?_
  rintro e w1 ⟨c0, cp, rfl, hb1⟩
  go_wp2_with (first | (go_at_call 8; refine (msg_fit c0 cp _).mono ?_; rintro e w2 ⟨a2, c2, rfl, hb2⟩) | (go_at_call 10; refine (right_fit _).mono ?_; rintro e w3 ⟨rfl, hb3⟩) | (go_at_call 17; refine (Sc.name_l [97] _ (by decide)).mono ?_; rintro e w4 ⟨rfl, rfl⟩) | (go_at_call 18; refine (Sc.right_l [] _ (by decide)).mono ?_; rintro e w5 ⟨rfl, ⟨nd, rfl⟩⟩) | (go_at_call 16; refine (event_fit _).mono ?_; rintro e w6 ⟨a6, c6, rfl, hb6⟩))
  go_ret
  exact ⟨rfl, btrans (bdrewN (btrans (btrans hb1 (btrans (balloc _ _) hb2)) hb3) _) hb6⟩
end Go.Proofs.Ytpbdgbejcdncgaa.Wire
end

section
/- THE BYTES' NUMBERS that WireSizes asks for. -/
namespace Go.Proofs.Ytpbdgbejcdncgaa.Wire
open Go.RowKit Flt Go.Proofs.Ytpbdgbejcdncgaa.Val Go.Lib
theorem rule_n (who sf : List UInt8) (c0 : Option Addr) (cp : Nat) (cs : List C) (w : World) (hcl : Conds w c0 cs) (hnum : ∀ c ∈ cs, c.val.num < 18446744073709551616) (hl : (encFilter sf cs).length ≤ 2000) (hw : who.length ≤ 100) (hlm : cs.length ≤ 1000000) :
    Calls Try.prog 9 #[Pol.rv ⟨⟨1, 0, who, 0⟩, 0, sf, c0, cs.length, cp, []⟩] w fun e w' => (∃ a c, e = .returned (.slice a (6 + who.length + (encFilter sf cs).length) c)) ∧ Below w.heap.size w w' := by
  have hr := rule_len ⟨⟨1, 0, who, 0⟩, 0, sf, c0, cs.length, cp, []⟩ cs
  simp only [List.length_nil, Nat.add_zero] at hr
  refine (ruleb_any ⟨⟨1, 0, who, 0⟩, 0, sf, c0, cs.length, cp, []⟩ cs w hcl rfl hnum (by rw [hr]; omega) hlm).mono ?_
  rintro e w' ⟨⟨a, c, rfl, _⟩, hb⟩
  rw [hr]
  exact ⟨⟨a, c, rfl⟩, hb⟩
theorem sub_n (sf : List UInt8) (c0 : Option Addr) (cp : Nat) (cs : List C) (w : World) (hcl : Conds w c0 cs) (hnum : ∀ c ∈ cs, c.val.num < 18446744073709551616) (hl : (encFilter sf cs).length ≤ 2000) (hlm : cs.length ≤ 1000000) :
    Calls Try.prog 8 #[.agg (msgL 1 0 0 0 [] 0 [] none 0 0 [] 0 sf c0 cs.length cp [] none 0 0 0 [] 0)] w fun e w' => (∃ a c, e = .returned (.slice a (1 + (encFilter sf cs).length) c)) ∧ Below w.heap.size w w' := by
  refine (msg_sub ⟨1, 0, ⟨⟨0, 0, [], 0⟩, 0, [], none, 0, 0, []⟩, sf, c0, cs.length, cp, [], none, 0, 0, 0, [], 0⟩ cs w (by show (1 : Int) ≠ 0; decide) (by show (1 : Int) ≠ 3; decide) hcl rfl hnum (by show 1 + (encFilter sf cs).length ≤ 1000000; omega) hlm).mono ?_
  rintro e w' ⟨⟨a, c, rfl, _⟩, hb⟩
  rw [List.length_append, List.length_singleton]
  exact ⟨⟨a, c, rfl⟩, hb⟩
theorem policy_n (who sf : List UInt8) (c0 : Option Addr) (cp : Nat) (cs : List C) (w : World) (hcl : Conds w c0 cs) (hnum : ∀ c ∈ cs, c.val.num < 18446744073709551616) (hl : (encFilter sf cs).length ≤ 2000) (hw : who.length ≤ 100) (hlm : cs.length ≤ 1000000) :
    Calls Try.prog 8 #[.agg (msgL 0 0 1 0 who 0 sf c0 cs.length cp [] 0 [] none 0 0 [] none 0 0 0 [] 0)] w fun e w' => (∃ a c, e = .returned (.slice a (8 + who.length + (encFilter sf cs).length) c)) ∧ Below w.heap.size w w' := by
  have hr := rule_len ⟨⟨1, 0, who, 0⟩, 0, sf, c0, cs.length, cp, []⟩ cs
  simp only [List.length_nil, Nat.add_zero] at hr
  refine (msg_policy ⟨0, 0, ⟨⟨1, 0, who, 0⟩, 0, sf, c0, cs.length, cp, []⟩, [], none, 0, 0, [], none, 0, 0, 0, [], 0⟩ cs w rfl hcl rfl hnum (by show 2 + (encRule ⟨⟨1, 0, who, 0⟩, 0, sf, c0, cs.length, cp, []⟩ cs).length ≤ 1000000; rw [hr]; omega) hlm).mono ?_
  rintro e w' ⟨⟨a, c, rfl, _⟩, hb⟩
  rw [List.length_append, hr, show ([byteOf 0] ++ [byteOf 0]).length + (6 + who.length + (encFilter sf cs).length) = 8 + who.length + (encFilter sf cs).length from by simp only [List.length_append, List.length_singleton]; omega]
  exact ⟨⟨a, c, rfl⟩, hb⟩
theorem event_n (who es : List UInt8) (e0 : Option Addr) (ec : Nat) (l : List A) (w : World) (hcl : Attrs w e0 l) (hnum : ∀ c ∈ l, c.val.num < 18446744073709551616) (hl : (encEvent es l).length ≤ 3000) (hw : who.length ≤ 100) (hlm : l.length ≤ 1000000) :
    Calls Try.prog 8 #[.agg (msgL 3 0 0 0 [] 0 [] none 0 0 [] 0 [] none 0 0 es e0 l.length ec 0 who 0)] w fun e w' => (∃ a c, e = .returned (.slice a (18 + who.length + (encEvent es l).length) c)) ∧ Below w.heap.size w w' := by
  refine (msg_event ⟨3, 0, ⟨⟨0, 0, [], 0⟩, 0, [], none, 0, 0, []⟩, [], none, 0, 0, es, e0, l.length, ec, 0, who, 0⟩ l w rfl hcl rfl hnum (by show 18 + who.length + (encEvent es l).length ≤ 1000000; omega) hlm).mono ?_
  rintro e w' ⟨⟨a, c, rfl, _⟩, hb⟩
  have hn : ([byteOf 3] ++ encText who ++ encLong (u64of 0) ++ encLong (u64of 0) ++ encEvent es l).length = 18 + who.length + (encEvent es l).length := by
    simp only [List.length_append, List.length_singleton, encText_len, encLong_len]
    omega
  rw [hn]
  exact ⟨⟨a, c, rfl⟩, hb⟩
end Go.Proofs.Ytpbdgbejcdncgaa.Wire
end

section
/- THE WALKS OF Light, few and Event of chapter 07's laws. -/
namespace Go.Proofs.Ytpbdgbejcdncgaa.Val
open Go.RowKit Flt
attribute [local go_sem] run_store_flt
set_option maxHeartbeats 2000000 in
theorem light07_any (sf : List UInt8) (a0 : Option Addr) (cap : Nat) (l : List C) (w : World) (hl : Conds w a0 l) (hlm : l.length ≤ maxLen) :
    Calls Try.prog 11 #[ev sf a0 l.length cap] w fun e w' => (∃ b : Bool, e = .returned (.bool b) ∧ (b = true → l.length ≤ 20)) ∧ Below w.heap.size w w' := by
  have HL := Lib.hid hl
  unfold maxLen at hlm
  clear hl
  go_enter Try.func11, Try.ntmps11
  go_wp2_with fail
  have hx1 := box2_new w sf a0 l.length cap 26
  have hbw := balloc w (.cells #[.string ⟨sf.toArray⟩, .slice a0 l.length cap] 26)
  have HX1 := Lib.hid hx1; have HBW := Lib.hid hbw
  clear hx1 hbw
  generalize w.alloc _ = W0 at *
  go_loopw [3, 12] (fun vn vi wr => ∃ (k : Nat) (z : Int), k ≤ l.length ∧ vn = .int .i64 z ∧ vi = .int .i64 k ∧ Below W0.heap.size W0 wr) (fun _ vi _ => l.length - (intOf vi).toNat)
  case atStart => exact ⟨0, _, Nat.zero_le _, rfl, rfl, Below.refl _ _⟩
  case round =>
    obtain ⟨k, z, hk, rfl, rfl, hbr⟩ := hrel
    have hbz := btrans HBW.out hbr
    have hy1 := HX1.out.below hbr
    have hs1 := hy1.lt
    obtain ⟨f0, f1⟩ := hy1
    have HBZ := Lib.hid hbz; have HBR := Lib.hid hbr
    clear hbz hbr
    by_cases hlt : k < l.length
    · have i1 : (k : Int) < (l.length : Int) := by omega
      have i0 : (0 : Int) ≤ (k : Int) := by omega
      obtain ⟨a, rfl, v0, v1, v2, v3, v4, v5, v6⟩ := (HL.out.below HBZ.out) k hlt
      go_wp2_with fail
      exact ⟨⟨k + 1, _, by omega, rfl, by go_num, btrans HBR.out (balloc _ _)⟩, by simp [intOf]; go_num⟩
    · obtain rfl : k = l.length := by omega
      cases hd : decide (z ≤ 2000)
      · go_wp2_with fail
        go_ret
        exact ⟨⟨_, rfl, fun h => by cases h⟩, HBZ.out⟩
      · go_wp2_with fail
        go_ret
        exact ⟨⟨_, rfl, fun h => by simp at h; omega⟩, HBZ.out⟩
theorem newB_small {l : List A} (h : ∀ x ∈ l, Open.AOk x) : ∀ a ∈ newB l, a.name.length ≤ 140737488351232 ∧ a.val.text.length ≤ 140737488351232 := fun a ha => by
  obtain ⟨x, hx, hn, hv⟩ := mem_newB ha
  have hk := h x hx
  refine ⟨by rw [← hn]; exact hk.1, ?_⟩
  have ht : x.val.text.length ≤ 140737488351232 := hk.2.2.2.2
  rw [hv]
  unfold canonV
  split
  · simp
  split
  · simp
  split
  · exact ht
  split
  · simp
  · simp
theorem one_attrs2 (w : World) (g : Nat) (hg : g = w.heap.size) (a : A) (e : TypeId) : Attrs (w.alloc (.cells #[.string ⟨a.name.toArray⟩, .int .i64 a.val.kind, .int .i64 a.val.int, .float .f64 a.val.num, .string ⟨a.val.text.toArray⟩, .bool a.val.yes] e)) (some ⟨g, 0, none⟩) [a] := by
  subst hg; exact liesA (new_attr w a e)
set_option maxRecDepth 20000 in
set_option maxHeartbeats 4000000 in
theorem event07_any (s : List UInt8) (a0 : Option Addr) (cap : Nat) (l : List A) (w : World) (hl : Attrs w a0 l) (hlm : l.length ≤ 100000) (hs : s.length ≤ 140737488351232) (hok : ∀ x ∈ l, Open.AOk x) :
    Calls Try.prog 13 #[.string ⟨s.toArray⟩, .slice a0 l.length cap] w fun e w' =>
      ∃ b0 cp, e = .returned (ev (evS s) b0 (evL l).length cp) ∧ Attrs w' b0 (evL l) ∧ Below w.heap.size w w' := by
  have hrt (W : World) := Sc.right_l s W hs
  have hnew (sc : List UInt8) (W : World) (h : Attrs W a0 l) := new_any sc a0 cap l W h hlm
  have hnl := newB_len l
  have hend := evK_end l
  have hsm := newB_small hok
  have hes : evS s = if Sc.rightB s then s else [] := rfl
  have HL := Lib.hid hl; have HRT := Lib.hid hrt; have HNEW := Lib.hid hnew; have HEND := Lib.hid hend; have HSM := Lib.hid hsm
  clear hl hrt hnew hend hsm hok hs
  generalize newB l = nb at *
  generalize evL l = el at *
  generalize Sc.rightB s = U at *
  generalize evS s = sc at *
  obtain ⟨i0, hi, hz0, hz1, hz2⟩ := info_parts info_attr
  cases U
  all_goals
    simp only [Bool.false_eq_true, if_false, if_true] at hes
    have HES := Lib.hid hes
    clear hes
    go_enter Try.func13, Try.ntmps13
    go_wp2_with (go_at_call 18; refine (HRT.out _).mono ?_; rintro e w5 ⟨rfl, ⟨nd, rfl⟩⟩)
    refine (HNEW.out _ _ (HL.out.below (bdrewN (balloc _ _) _))).mono ?_
    rintro e w2 ⟨b1, cp1, rfl, hat2, _, hb2⟩
    have hbw := btrans (bdrewN (balloc w (.cells #[.string ⟨#[]⟩, .slice none 0 0] 31)) nd) hb2
    have hres : ((w2.cell? ⟨w.heap.size, 0, none⟩).isSome = true ∧ (w2.cell? ⟨w.heap.size, 1, none⟩).isSome = true) ∧ w2.frozen? ⟨w.heap.size, 0, none⟩ = false ∧ w2.frozen? ⟨w.heap.size, 1, none⟩ = false ∧ w.heap.size < w2.heap.size := by
      have hs2 : w.heap.size < w2.heap.size := Nat.lt_of_lt_of_le (by show w.heap.size < (w.alloc _).heap.size; simp) hb2.size
      obtain ⟨hc2, hf2⟩ := bcell hb2
      have q0 := (hc2 w.heap.size 0 (by show w.heap.size < (w.alloc _).heap.size; simp)).trans (World.cell?_alloc_at (w := w) _ _ _ _ rfl)
      have q1 := (hc2 w.heap.size 1 (by show w.heap.size < (w.alloc _).heap.size; simp)).trans (World.cell?_alloc_at (w := w) _ _ _ _ rfl)
      have z0 := (hf2 w.heap.size 0 (by show w.heap.size < (w.alloc _).heap.size; simp)).trans (World.frozen?_alloc_at (w := w) _ _ _ _ rfl)
      have z1 := (hf2 w.heap.size 1 (by show w.heap.size < (w.alloc _).heap.size; simp)).trans (World.frozen?_alloc_at (w := w) _ _ _ _ rfl)
      exact ⟨⟨by rw [q0]; rfl, by rw [q1]; rfl⟩, z0, z1, hs2⟩
    have HRES := Lib.hid hres; have HBW := Lib.hid hbw; have HAT2 := Lib.hid hat2
    clear hres hbw hat2 hb2 HL HNEW
    go_wp2_with fail
    go_loopw [20] (fun vi wr => ∃ (kk : Nat) (v : Value), kk ≤ nb.length ∧ vi = .int .i64 kk ∧ NewAt w2.heap.size sc v (evK nb kk) wr ∧ Below w2.heap.size w2 wr) (fun vi _ => nb.length - (intOf vi).toNat)
    case atStart =>
      refine ⟨0, .slice none 0 0, Nat.zero_le _, rfl, ⟨?_, ?_, ?_, ?_, ?_, ?_, ?_, World.ownsRow_nil _ _ _ _, ?_⟩, by repeat (first | assumption | (with_reducible exact Below.refl _ _) | exact balloc _ _ | exact balloc2 _ _ _ | refine btrans ?_ (by assumption) | refine btrans ?_ (balloc _ _))⟩ <;> first | (rw [HES.out]; simp [go_sem]; done) | simp [go_sem]
    case round =>
      obtain ⟨kk, v, hk, rfl, hat, hbr⟩ := hrel
      have hsz := hat.2.2.2.2.2.2.2.2
      by_cases hlt : kk < nb.length
      · have i1 : (kk : Int) < (nb.length : Int) := by omega
        have i0' : (0 : Int) ≤ (kk : Int) := by omega
        obtain ⟨a, rfl, v0, v1, v2, v3, v4, v5⟩ := (HAT2.out.below hbr) kk hlt
        obtain ⟨ob, oc, rfl, hal⟩ := own_attrs hat.2.2.2.2.2.2.2.1
        have hl8 := evK_len nb kk
        have hef := evK_full nb kk hlt
        have hen := evK_no nb kk hlt
        have hey := evK_yes nb kk hlt
        have hsmk := HSM.out _ (List.getElem_mem hlt)
        have her (W : World) (h : Attrs W (some ⟨wr.heap.size + 1, 0, none⟩) [nb[kk]]) : Calls Try.prog 36 #[ev [] (some ⟨wr.heap.size + 1, 0, none⟩) 1 1] W fun e w' => e = .returned (.bool (okA nb[kk])) ∧ Below W.heap.size W w' :=
          eright_any [] _ 1 [nb[kk]] W h (by simp) (fun x hx => by rw [List.mem_singleton.1 hx]; exact hsmk)
        have hat' := hat
        obtain ⟨o0, o1, ofz, _, _, _, _, _, _⟩ := hat'
        generalize evK nb kk = acc at *
        generalize hM : okA nb[kk] = M at *
        have HAT := Lib.hid hat; have HEF := Lib.hid hef; have HEN := Lib.hid hen; have HEY := Lib.hid hey; have HER := Lib.hid her
        clear hal hat hef hen hey hsmk her hM
        have hne : w2.heap.size + 1 < wr.heap.size := by omega
        by_cases h8 : acc.length < 8
        rotate_left
        · have d1 : ¬ (acc.length : Int) < 8 := by omega
          go_wp2_with fail
          exact ⟨⟨kk + 1, _, by omega, by go_num, by rw [HEF.out h8]; exact HAT.out.below (balloc _ _), btrans hbr (balloc _ _)⟩, by simp [intOf]; go_num⟩
        · have d1 : (acc.length : Int) < 8 := by omega
          cases M
          · go_wp2_with (go_at_call 36; refine (HER.out _ (one_attrs2 (wr.alloc (.cells #[.string ⟨(nb[kk]).name.toArray⟩, .int .i64 (nb[kk]).val.kind, .int .i64 (nb[kk]).val.int, .float .f64 (nb[kk]).val.num, .string ⟨(nb[kk]).val.text.toArray⟩, .bool (nb[kk]).val.yes] 76)) _ (World.size_alloc _ _).symm _ _)).mono ?_; rintro e w4 ⟨rfl, hb4⟩)
            exact ⟨⟨kk + 1, _, by omega, by go_num, by rw [HEN.out (by trivial)]; exact (HAT.out.below (balloc2 _ _ _)).below hb4, btrans hbr (btrans (balloc2 _ _ _) hb4)⟩, by simp [intOf]; go_num⟩
          · go_wp2_with fail
            refine (HER.out _ (one_attrs2 (wr.alloc (.cells #[.string ⟨(nb[kk]).name.toArray⟩, .int .i64 (nb[kk]).val.kind, .int .i64 (nb[kk]).val.int, .float .f64 (nb[kk]).val.num, .string ⟨(nb[kk]).val.text.toArray⟩, .bool (nb[kk]).val.yes] 76)) _ (World.size_alloc _ _).symm _ _)).mono ?_; rintro e w4 ⟨rfl, hb4⟩
            have hat4 := (HAT.out.below (balloc2 wr (.cells #[.string ⟨(nb[kk]).name.toArray⟩, .int .i64 (nb[kk]).val.kind, .int .i64 (nb[kk]).val.int, .float .f64 (nb[kk]).val.num, .string ⟨(nb[kk]).val.text.toArray⟩, .bool (nb[kk]).val.yes] 76) (.cells #[.string ⟨(nb[kk]).name.toArray⟩, .int .i64 (nb[kk]).val.kind, .int .i64 (nb[kk]).val.int, .float .f64 (nb[kk]).val.num, .string ⟨(nb[kk]).val.text.toArray⟩, .bool (nb[kk]).val.yes] 76))).below hb4
            have hbr4 := btrans hbr (btrans (balloc2 wr (.cells #[.string ⟨(nb[kk]).name.toArray⟩, .int .i64 (nb[kk]).val.kind, .int .i64 (nb[kk]).val.int, .float .f64 (nb[kk]).val.num, .string ⟨(nb[kk]).val.text.toArray⟩, .bool (nb[kk]).val.yes] 76) (.cells #[.string ⟨(nb[kk]).name.toArray⟩, .int .i64 (nb[kk]).val.kind, .int .i64 (nb[kk]).val.int, .float .f64 (nb[kk]).val.num, .string ⟨(nb[kk]).val.text.toArray⟩, .bool (nb[kk]).val.yes] 76)) hb4)
            have hbx4 := ((BoxA.below (box_attr wr nb[kk] 76) (balloc _ (.cells #[.string ⟨(nb[kk]).name.toArray⟩, .int .i64 (nb[kk]).val.kind, .int .i64 (nb[kk]).val.int, .float .f64 (nb[kk]).val.num, .string ⟨(nb[kk]).val.text.toArray⟩, .bool (nb[kk]).val.yes] 76))).below hb4)
            have hs4 : wr.heap.size + 1 < w4.heap.size := size2 hb4
            have HAT4 := Lib.hid hat4; have HBR4 := Lib.hid hbr4
            obtain ⟨o0, o1, ofz, _, _, _, _, hown4, hsz4⟩ := hat4
            obtain ⟨q0, q1, q2, q3, q4, q5⟩ := hbx4
            have OWN4 := Lib.hid hown4
            clear v0 v1 v2 v3 v4 v5 hown4 hbr4 HAT HER hb4
            go_wp2_with (at_builtin; refine wpList_append_own _ rfl _ _ 29 rfl (w2.heap.size + 2) 76 i0 (.agg #[.string .empty, .int .i64 0, .int .i64 0, .float .f64 0, .string .empty, .bool false]) 6 64 Try.underlying29 hi hz0 hz1 hz2 rfl (by decide) (.slice ob acc.length oc) _ _ rfl (OWN4.out.alloc _) ⟨w4.heap.size, 0, none⟩ 1 1 (flatA [nb[kk]]) rfl rfl ?news (flatA_one _) (by unfold maxLen; omega) (by omega) (by simp; omega) ?_; rotate_left; (case news => exact new_attr w4 nb[kk] _); intro v' w6 hown' hgrow3 hnil3; have hown2 : w6.ownsRow (w2.heap.size + 2) 76 6 v' (acc ++ [nb[kk]]).length (flatA (acc ++ [nb[kk]])) := (by rw [flatA_app, List.length_append]; exact hown'); obtain ⟨b5, cp5, rfl, _⟩ := own_attrs hown2; have hrow : ∀ k, (Value.slice ob acc.length oc).ownBlock = some k → w2.heap.size + 2 ≤ k := (fun k hk => (OWN4.out.lt k hk).1); have hk5 := (HAT4.out.below (balloc w4 (.cells #[.string ⟨(nb[kk]).name.toArray⟩, .int .i64 (nb[kk]).val.kind, .int .i64 (nb[kk]).val.int, .float .f64 (nb[kk]).val.num, .string ⟨(nb[kk]).val.text.toArray⟩, .bool (nb[kk]).val.yes] 76))).kept hgrow3 hrow hown2; have g1 := hgrow3.block (w2.heap.size + 1) (by simp; omega) (fun e => by have := hrow _ e.symm; omega); have p1 := (World.cell?_of_block (a := ⟨w2.heap.size + 1, 1, none⟩) g1).trans ((World.cell?_alloc_past (w := w4) _ (w2.heap.size + 1) 1 (by omega)).trans o1); have pz := (World.frozen?_of_block (a := ⟨w2.heap.size + 1, 1, none⟩) g1).trans ((World.frozen?_alloc_past (w := w4) _ (w2.heap.size + 1) 1 (by omega)).trans ofz); have hbf : Below w2.heap.size w2 w6 := Below.grown (btrans HBR4.out (balloc _ _)) hgrow3 (by have := HBR4.out.size; simp; omega) (fun k hk => by have := hrow k hk; omega); have HK5 := Lib.hid hk5; have HBF := Lib.hid hbf; clear hk5 hbf hown2 hown' hgrow3 hnil3 g1 hrow o0 o1 ofz q0 q1 q2 q3 q4 q5)
            exact ⟨⟨kk + 1, _, by omega, by go_num, by rw [HEY.out h8 (by trivial)]; have hk := HK5.out; rw [show (acc ++ [nb[kk]]).length = acc.length + 1 by simp] at hk; exact hk, HBF.out.setCell (by simp) _⟩, by simp [intOf]; go_num⟩
      · have i1 : ¬ (kk : Int) < (nb.length : Int) := by omega
        obtain rfl : kk = nb.length := by omega
        rw [HEND.out] at hat
        obtain ⟨o0, o1, ofz, _, _, _, _, hown, _⟩ := hat
        obtain ⟨b0, cp, rfl, hat⟩ := own_attrs hown
        have OWN := Lib.hid hown; have HAT := Lib.hid hat; clear hown hat
        obtain ⟨⟨r0, r1⟩, rf0, rf1, hrl⟩ := HRES.out
        obtain ⟨hcr, hfr⟩ := bcell hbr
        replace r0 := (congrArg Option.isSome (hcr _ 0 hrl)).trans r0
        replace r1 := (congrArg Option.isSome (hcr _ 1 hrl)).trans r1
        replace rf0 := (hfr _ 0 hrl).trans rf0
        replace rf1 := (hfr _ 1 hrl).trans rf1
        have hbb := btrans HBW.out hbr
        obtain ⟨u0, hu0⟩ := Option.isSome_iff_exists.1 r0
        obtain ⟨u1, hu1⟩ := Option.isSome_iff_exists.1 r1
        clear r0 r1 hcr hfr hbr
        go_wp2
        have e0 : ((wr.setCell ⟨w.heap.size, 0, none⟩ (.string ⟨sc.toArray⟩)).setCell ⟨w.heap.size, 1, none⟩ (.slice b0 el.length cp)).cell? ⟨w.heap.size, 0, none⟩ = some (.string ⟨sc.toArray⟩) := (World.cell?_setCell_other _ _ _ _ (by simp)).trans (World.cell?_setCell_same _ _ _ hu0)
        have e1 : ((wr.setCell ⟨w.heap.size, 0, none⟩ (.string ⟨sc.toArray⟩)).setCell ⟨w.heap.size, 1, none⟩ (.slice b0 el.length cp)).cell? ⟨w.heap.size, 1, none⟩ = some (.slice b0 el.length cp) := World.cell?_setCell_same _ _ _ ((World.cell?_setCell_other _ _ _ _ (by simp)).trans hu1)
        have ow := ownsRow_setCell_below (a := ⟨w.heap.size, 1, none⟩) (ownsRow_setCell_below (a := ⟨w.heap.size, 0, none⟩) OWN.out (by show w.heap.size < w2.heap.size + 2; omega) (.string ⟨sc.toArray⟩)) (by show w.heap.size < w2.heap.size + 2; omega) (.slice b0 el.length cp)
        have hb9 := (hbb.setCell (p := ⟨w.heap.size, 0, none⟩) (by simp) (.string ⟨sc.toArray⟩)).setCell (p := ⟨w.heap.size, 1, none⟩) (by simp) (.slice b0 el.length cp)
        generalize World.setCell _ _ _ = W2 at *
        refine bodyPost_ret (v := ev sc b0 el.length cp) (by simp [results, Try.results13, go_sem, e0, e1]; try rfl) rfl ?_
        obtain ⟨b9, cp9, he, hat9⟩ := own_attrs ow
        cases he
        exact ⟨b0, ⟨cp, rfl⟩, hat9, hb9⟩
end Go.Proofs.Ytpbdgbejcdncgaa.Val
end

section
/- THE WALK OF gazettelaw16.WireSizes. -/
namespace Go.Proofs.Ytpbdgbejcdncgaa.Wire
open Go.RowKit Flt Go.Proofs.Ytpbdgbejcdncgaa.Val Go.Lib
attribute [local go_sem] run_store_flt
/-- attributes do not lie in a box of two cells -/
theorem attrs_off {W : World} {q : Nat} {v0 v1 : Value} {T : TypeId} (h : W.heap[q]? = some (.cells #[v0, v1] T (0, 0))) {b : Option Addr} {L : List A} (hc : Attrs W b L) : L = [] ∨ ∀ a, b = some a → a.block ≠ q := by
  cases L with
  | nil => exact .inl rfl
  | cons c r =>
    refine .inr fun a ha e => ?_
    obtain ⟨a', e', hat⟩ := hc 0 (by simp)
    rw [ha] at e'
    cases e'
    have h6 := hat.2.2.2.2.2
    have hb : (a.add (0 * 6)).block = q := by
      rw [← e]; unfold Addr.add; split <;> rfl
    rw [hb] at h6
    simp [World.cell?, h] at h6
theorem canonV_small {v : V} (h : v.num < 18446744073709551616) : (canonV v).num < 18446744073709551616 := by
  unfold canonV
  split
  · exact Nat.zero_lt_of_lt h
  · split
    · exact Ord.canon_lt _ h
    · split
      · exact Nat.zero_lt_of_lt h
      · split <;> exact Nat.zero_lt_of_lt h
theorem ws_of {w W9 w' : World} {rb : Nat} {sf se who : List UInt8} {c0 b0 : Option Addr} {cs : List C} {el : List A} {cp cpe : Nat} (hX : BoxM W9 w.heap.size #[.string ⟨sf.toArray⟩, .slice c0 cs.length cp]) (hE : BoxM W9 (w.heap.size + 1) #[.string ⟨se.toArray⟩, .slice b0 el.length cpe]) (hR : BoxM W9 rb #[.int .i64 1, .int .i64 0, .string ⟨who.toArray⟩, .int .i64 0, .string ⟨sf.toArray⟩, .slice c0 cs.length cp, .string ⟨#[]⟩, .int .i64 0]) (hb : Below W9.heap.size W9 w') : (fun w' => w'.cell? ⟨w.heap.size, 0, none⟩ = some (.string ⟨sf.toArray⟩) ∧ w'.cell? ⟨w.heap.size, 1, none⟩ = some (.slice c0 cs.length cp) ∧ w'.cell? ⟨w.heap.size + 1, 0, none⟩ = some (.string ⟨se.toArray⟩) ∧ w'.cell? ⟨w.heap.size + 1, 1, none⟩ = some (.slice b0 el.length cpe) ∧ w'.cell? ⟨rb, 0, none⟩ = some (.int .i64 1) ∧ w'.cell? ⟨rb, 1, none⟩ = some (.int .i64 0) ∧ w'.cell? ⟨rb, 2, none⟩ = some (.string ⟨who.toArray⟩) ∧ w'.cell? ⟨rb, 3, none⟩ = some (.int .i64 0) ∧ w'.cell? ⟨rb, 4, none⟩ = some (.string ⟨sf.toArray⟩) ∧ w'.cell? ⟨rb, 5, none⟩ = some (.slice c0 cs.length cp) ∧ w'.cell? ⟨rb, 6, none⟩ = some (.string ⟨#[]⟩) ∧ w'.cell? ⟨rb, 7, none⟩ = some (.int .i64 0) ∧ Below W9.heap.size W9 w') w' := by
  have x := (hX.below hb).c; have y := (hE.below hb).c; have z := (hR.below hb).c
  exact ⟨x 0 (by simp), x 1 (by simp), y 0 (by simp), y 1 (by simp), z 0 (by simp), z 1 (by simp), z 2 (by simp), z 3 (by simp), z 4 (by simp), z 5 (by simp), z 6 (by simp), z 7 (by simp), hb⟩
theorem ws_own {w W9 w' : World} {rb : Nat} {sf se who : List UInt8} {c0 b0 : Option Addr} {cs : List C} {el : List A} {cp cpe : Nat} (h : (fun w' => w'.cell? ⟨w.heap.size, 0, none⟩ = some (.string ⟨sf.toArray⟩) ∧ w'.cell? ⟨w.heap.size, 1, none⟩ = some (.slice c0 cs.length cp) ∧ w'.cell? ⟨w.heap.size + 1, 0, none⟩ = some (.string ⟨se.toArray⟩) ∧ w'.cell? ⟨w.heap.size + 1, 1, none⟩ = some (.slice b0 el.length cpe) ∧ w'.cell? ⟨rb, 0, none⟩ = some (.int .i64 1) ∧ w'.cell? ⟨rb, 1, none⟩ = some (.int .i64 0) ∧ w'.cell? ⟨rb, 2, none⟩ = some (.string ⟨who.toArray⟩) ∧ w'.cell? ⟨rb, 3, none⟩ = some (.int .i64 0) ∧ w'.cell? ⟨rb, 4, none⟩ = some (.string ⟨sf.toArray⟩) ∧ w'.cell? ⟨rb, 5, none⟩ = some (.slice c0 cs.length cp) ∧ w'.cell? ⟨rb, 6, none⟩ = some (.string ⟨#[]⟩) ∧ w'.cell? ⟨rb, 7, none⟩ = some (.int .i64 0) ∧ Below W9.heap.size W9 w') w') : Below W9.heap.size W9 w' := h.2.2.2.2.2.2.2.2.2.2.2.2
set_option maxRecDepth 20000 in
set_option maxHeartbeats 8000000 in
theorem wsizes_any (sf es who : List UInt8) (c0 a0 : Option Addr) (cp ca : Nat) (cs : List C) (l : List A) (w : World) (hcs : Conds w c0 cs) (hl : Attrs w a0 l) (hcm : cs.length ≤ maxLen)
    (hsf : sf.length ≤ 140737488351232) (hes : es.length ≤ 140737488351232) (hwho : who.length ≤ 140737488351232) (hok : ∀ x ∈ cs, x.name.length ≤ 140737488351232 ∧ x.val.text.length ≤ 140737488351232) (hnum : ∀ c ∈ cs, c.val.num < 18446744073709551616) (hak : ∀ x ∈ l, Open.AOk x) :
    Calls Try.prog 4 #[ev sf c0 cs.length cp, ev es a0 l.length ca, .string ⟨who.toArray⟩] w fun e w' => e = .returned (.bool true) ∧ Below w.heap.size w w' := by
  have hli (W : World) (h : Conds W c0 cs) := light07_any sf c0 cp cs W h hcm
  have hri (W : World) (h : Conds W c0 cs) (hm : cs.length ≤ 1000000) := fright_any sf c0 cp cs W h hm hsf hok
  have hev (W : World) (h : Attrs W a0 l) (hm : l.length ≤ 20) := event07_any es a0 ca l W h (by omega) hes hak
  have hfl := fun h : fRight sf cs = true => fright_len h (sc_short h)
  have hel := evl_len es l
  have hel8 : (evL l).length ≤ 8 := by unfold evL; rw [List.length_take]; omega
  have hnuA : ∀ c ∈ evL l, c.val.num < 18446744073709551616 := fun c hc => by
    unfold evL at hc
    have h1 := (List.mem_filter.1 (List.mem_of_mem_take hc)).1
    obtain ⟨x, hx, hn, hv⟩ := mem_newB h1
    have hk := hak x hx
    rw [hv]
    exact canonV_small hk.2.2.2.1
  generalize fRight sf cs = fr at *
  generalize evL l = el at *
  generalize evS es = se at *
  have HCS := Lib.hid hcs; have HL := Lib.hid hl; have HNUM := Lib.hid hnum; have HLI := Lib.hid hli; have HRI := Lib.hid hri; have HEV := Lib.hid hev; have HFL := Lib.hid hfl; have HEL := Lib.hid hel; have HNA := Lib.hid hnuA
  clear hcs hl hok hnum hak hli hri hev hfl hel hnuA
  go_enter Try.func4, Try.ntmps4
  go_wp2_with fail
  refine (fit16_any _).mono ?_; rintro e w1 ⟨rfl, hbn⟩
  have HX := Lib.hid ((boxm_new w #[.string ⟨sf.toArray⟩, .slice c0 cs.length cp] 26 (by simp)).below (balloc _ (.cells #[.string ⟨es.toArray⟩, .slice a0 l.length ca] 31)))
  have HE := Lib.hid (boxm_new (w.alloc (.cells #[.string ⟨sf.toArray⟩, .slice c0 cs.length cp] 26)) #[.string ⟨es.toArray⟩, .slice a0 l.length ca] 31 (by simp))
  rw [show (w.alloc (.cells #[.string ⟨sf.toArray⟩, .slice c0 cs.length cp] 26)).heap.size = w.heap.size + 1 from by simp] at HE
  have HBR := Lib.hid (balloc2 w (.cells #[.string ⟨sf.toArray⟩, .slice c0 cs.length cp] 26) (.cells #[.string ⟨es.toArray⟩, .slice a0 l.length ca] 31))
  have HEB : Hid (((w.alloc (.cells #[.string ⟨sf.toArray⟩, .slice c0 cs.length cp] 26)).alloc (.cells #[.string ⟨es.toArray⟩, .slice a0 l.length ca] 31)).heap[w.heap.size + 1]? = some (.cells #[.string ⟨es.toArray⟩, .slice a0 l.length ca] 31 (0, 0))) := Lib.hid (by rw [← show (w.alloc (.cells #[.string ⟨sf.toArray⟩, .slice c0 cs.length cp] 26)).heap.size = w.heap.size + 1 from by simp]; show (Array.push _ _)[_]? = _; rw [Array.getElem?_push_size])
  have f0 : True := trivial; have f1 : True := trivial; have g0 : True := trivial; have g1 : True := trivial; have gz : True := trivial
  (replace HEB := Lib.hid ((hbn.block _ HE.out.lt).trans HEB.out); replace HX := Lib.hid (HX.out.below hbn); replace HE := Lib.hid (HE.out.below hbn); replace HBR := Lib.hid (btrans HBR.out hbn); clear hbn f0 f1 g0 g1 gz; have f0 := HX.out.c 0 (by simp); have f1 := HX.out.c 1 (by simp); have g0 := HE.out.c 0 (by simp); have g1 := HE.out.c 1 (by simp); have gz := HE.out.z; simp only [List.getElem?_toArray, List.getElem?_cons_zero, List.getElem?_cons_succ] at f0 f1 g0 g1)
  go_wp2_with fail
  refine (HLI.out _ (HCS.out.below HBR.out)).mono ?_; rintro e w2 ⟨⟨fb, rfl, hfl⟩, hbn⟩; (replace HEB := Lib.hid ((hbn.block _ HE.out.lt).trans HEB.out); replace HX := Lib.hid (HX.out.below hbn); replace HE := Lib.hid (HE.out.below hbn); replace HBR := Lib.hid (btrans HBR.out hbn); clear hbn f0 f1 g0 g1 gz; have f0 := HX.out.c 0 (by simp); have f1 := HX.out.c 1 (by simp); have g0 := HE.out.c 0 (by simp); have g1 := HE.out.c 1 (by simp); have gz := HE.out.z; simp only [List.getElem?_toArray, List.getElem?_cons_zero, List.getElem?_cons_succ] at f0 f1 g0 g1)
  cases fb
  · go_wp2_with fail
    go_ret
    exact ⟨rfl, HBR.out⟩
  have hc20 := hfl rfl
  clear hfl
  go_wp2_with fail
  refine (HRI.out _ (HCS.out.below HBR.out) (by omega)).mono ?_; rintro e w3 ⟨rfl, hbn⟩; (replace HEB := Lib.hid ((hbn.block _ HE.out.lt).trans HEB.out); replace HX := Lib.hid (HX.out.below hbn); replace HE := Lib.hid (HE.out.below hbn); replace HBR := Lib.hid (btrans HBR.out hbn); clear hbn f0 f1 g0 g1 gz; have f0 := HX.out.c 0 (by simp); have f1 := HX.out.c 1 (by simp); have g0 := HE.out.c 0 (by simp); have g1 := HE.out.c 1 (by simp); have gz := HE.out.z; simp only [List.getElem?_toArray, List.getElem?_cons_zero, List.getElem?_cons_succ] at f0 f1 g0 g1)
  cases fr
  · go_wp2_with fail
    go_ret
    exact ⟨rfl, HBR.out⟩
  have hfl := HFL.out rfl
  by_cases h100 : who.length ≤ 100
  rotate_left
  · have d1 : (100 : Int) < (who.length : Int) := by omega
    go_wp2_with fail
    go_ret
    exact ⟨rfl, HBR.out⟩
  have d1 : ¬ (100 : Int) < (who.length : Int) := by omega
  by_cases h60 : es.length ≤ 60
  rotate_left
  · have d2 : (60 : Int) < (es.length : Int) := by omega
    go_wp2_with fail
    go_ret
    exact ⟨rfl, HBR.out⟩
  have d2 : ¬ (60 : Int) < (es.length : Int) := by omega
  by_cases h20 : l.length ≤ 20
  rotate_left
  · have d3 : (20 : Int) < (l.length : Int) := by omega
    go_wp2_with fail
    go_ret
    exact ⟨rfl, HBR.out⟩
  have d3 : ¬ (20 : Int) < (l.length : Int) := by omega
  go_wp2_with fail
  refine (HEV.out _ (HL.out.below HBR.out) h20).mono ?_; rintro e w4 ⟨b0, cpe, rfl, hat, hbn⟩; (replace HEB := Lib.hid ((hbn.block _ HE.out.lt).trans HEB.out); replace HX := Lib.hid (HX.out.below hbn); replace HE := Lib.hid (HE.out.below hbn); replace HBR := Lib.hid (btrans HBR.out hbn); clear hbn f0 f1 g0 g1 gz; have f0 := HX.out.c 0 (by simp); have f1 := HX.out.c 1 (by simp); have g0 := HE.out.c 0 (by simp); have g1 := HE.out.c 1 (by simp); have gz := HE.out.z; simp only [List.getElem?_toArray, List.getElem?_cons_zero, List.getElem?_cons_succ] at f0 f1 g0 g1)
  have HAT := Lib.hid hat; clear hat
  go_upto_region 6 with fail
  have hX5 := (HX.out.other (q := w.heap.size + 1) (o := 0) (u := .string ⟨se.toArray⟩) (by omega)).other (q := w.heap.size + 1) (o := 1) (u := .slice b0 el.length cpe) (by omega)
  have hE5 := (HE.out.set (i := 0) (u := .string ⟨se.toArray⟩) (by simp)).set (i := 1) (u := .slice b0 el.length cpe) (by simp)
  have hB5 := (HBR.out.setCell (p := ⟨w.heap.size + 1, 0, none⟩) (Nat.le_succ _) (.string ⟨se.toArray⟩)).setCell (p := ⟨w.heap.size + 1, 1, none⟩) (Nat.le_succ _) (.slice b0 el.length cpe)
  have hA5 : Attrs ((w4.setCell ⟨w.heap.size + 1, 0, none⟩ (.string ⟨se.toArray⟩)).setCell ⟨w.heap.size + 1, 1, none⟩ (.slice b0 el.length cpe)) b0 el := by
    rcases attrs_off HEB.out HAT.out with e | e
    · rw [e]; exact fun i hi => absurd hi (by simp)
    · exact attrs_keep HAT.out (fun a ea p hp _ => (World.cell?_setCell_other _ _ _ _ (by intro e2; have := e a ea; rw [← e2] at hp; exact this hp.symm)).trans (World.cell?_setCell_other _ _ _ _ (by intro e2; have := e a ea; rw [← e2] at hp; exact this hp.symm)))
  generalize World.setCell (World.setCell _ _ _) _ _ = W5 at *
  have HX5 := Lib.hid hX5; have HE5 := Lib.hid hE5; have HB5 := Lib.hid hB5; have HA5 := Lib.hid hA5
  clear hX5 hE5 hB5 hA5 f0 f1 g0 g1 gz HX HE HBR HAT HEB
  go_upto_region 7 with fail
  have hwr := wr_new W5 (T := 45)
  have hb6 := balloc W5 (.cells #[.slice none 0 0] 45)
  generalize World.alloc W5 _ = W6 at *
  have q1 : w.heap.size < W5.heap.size := HX5.out.lt
  have q2 : w.heap.size + 1 < W5.heap.size := HE5.out.lt
  have hX6 := HX5.out.below hb6
  have f0 : W6.cell? ⟨w.heap.size, 0, none⟩ = some (.string ⟨sf.toArray⟩) := hX6.c 0 (by simp)
  have f1 : W6.cell? ⟨w.heap.size, 1, none⟩ = some (.slice c0 cs.length cp) := hX6.c 1 (by simp)
  have HWR := Lib.hid hwr; have HB6 := Lib.hid hb6; have HBR := Lib.hid (HB5.out.trans (hb6.mono HB5.out.size))
  clear hX6 hwr hb6
  go_upto_region 9 with (first | (go_at_call 14; refine (wfilter_any W5.heap.size [] sf c0 cp cs W6 w HWR.out HCS.out HBR.out (by omega) HNUM.out (by simp; omega) (by omega)).mono ?_; rintro e w7 ⟨rfl, hw7, ht7⟩; rw [List.nil_append] at hw7) | (go_at_call 15; refine (wbytes_any W5.heap.size _ w7 hw7 (by omega)).mono ?_; rintro e w8 ⟨⟨a8, c8, rfl, _, _, _⟩, hb8⟩) | fail)
  have hK8 := HB6.out.trans ((ht7.below HWR.out (Nat.le_refl _)).trans (hb8.mono (Nat.le_trans HB6.out.size ht7.size)))
  have hcn : cs.length ≤ 1000000 := by omega
  generalize hF : (encFilter sf cs).length = F at *
  have hFl : F ≤ 2000 := by omega
  have HF := Lib.hid hF; have HK := Lib.hid hK8
  clear hF hK8 f0 f1 HB6 HWR HBR hw7 ht7 hb8
  have hX8 := HX5.out.below HK.out
  have f0 : w8.cell? ⟨w.heap.size, 0, none⟩ = some (.string ⟨sf.toArray⟩) := hX8.c 0 (by simp)
  have f1 : w8.cell? ⟨w.heap.size, 1, none⟩ = some (.slice c0 cs.length cp) := hX8.c 1 (by simp)
  clear hX8
  go_upto_region 10 with fail
  have hR9 := boxm_new w8 #[.int .i64 1, .int .i64 0, .string ⟨who.toArray⟩, .int .i64 0, .string ⟨sf.toArray⟩, .slice c0 cs.length cp, .string ⟨#[]⟩, .int .i64 0] 28 (by simp)
  have hb9 := balloc w8 (.cells #[.int .i64 1, .int .i64 0, .string ⟨who.toArray⟩, .int .i64 0, .string ⟨sf.toArray⟩, .slice c0 cs.length cp, .string ⟨#[]⟩, .int .i64 0] 28)
  have hK9 := HK.out.trans (hb9.mono HK.out.size)
  generalize World.alloc w8 _ = W9 at *
  generalize w8.heap.size = rb at *
  have HX9 := Lib.hid (HX5.out.below hK9)
  have HE9 : Hid (BoxM W9 (w.heap.size + 1) #[.string ⟨se.toArray⟩, .slice b0 el.length cpe]) := Lib.hid (HE5.out.below hK9)
  have hC9 : Conds W9 c0 cs := HCS.out.below (HB5.out.trans (hK9.mono HB5.out.size))
  have hA9 : Attrs W9 b0 el := HA5.out.below hK9
  have hG : (encEvent se el).length ≤ 3000 := HEL.out
  obtain ⟨N1, hN1⟩ : ∃ N1, 6 + who.length + F = N1 := ⟨_, rfl⟩
  obtain ⟨N2, hN2⟩ : ∃ N2, 1 + F = N2 := ⟨_, rfl⟩
  obtain ⟨N3, hN3⟩ : ∃ N3, 8 + who.length + F = N3 := ⟨_, rfl⟩
  obtain ⟨G, hGG⟩ : ∃ G, (encEvent se el).length = G := ⟨_, rfl⟩
  obtain ⟨N4, hN4⟩ : ∃ N4, 18 + who.length + G = N4 := ⟨_, rfl⟩
  have hru : ∀ W, Below W9.heap.size W9 W → Calls Try.prog 9 #[.agg #[.int .i64 1, .int .i64 0, .string ⟨who.toArray⟩, .int .i64 0, .string ⟨sf.toArray⟩, .slice c0 cs.length cp, .string ⟨#[]⟩, .int .i64 0]] W fun e w' => (∃ a c, e = .returned (.slice a N1 c)) ∧ Below W.heap.size W w' := fun W hW => by
    have h := rule_n who sf c0 cp cs W (hC9.below hW) HNUM.out (by rw [HF.out]; exact hFl) h100 hcn
    rw [HF.out, hN1] at h
    exact h
  have hsu : ∀ W, Below W9.heap.size W9 W → Calls Try.prog 8 #[.agg #[.int .i64 1, .int .i64 0, .int .i64 0, .int .i64 0, .string ⟨#[]⟩, .int .i64 0, .string ⟨#[]⟩, .slice none 0 0, .string ⟨#[]⟩, .int .i64 0, .string ⟨sf.toArray⟩, .slice c0 cs.length cp, .string ⟨#[]⟩, .slice none 0 0, .int .i64 0, .string ⟨#[]⟩, .int .i64 0]] W fun e w' => (∃ a c, e = .returned (.slice a N2 c)) ∧ Below W.heap.size W w' := fun W hW => by
    have h := sub_n sf c0 cp cs W (hC9.below hW) HNUM.out (by rw [HF.out]; exact hFl) hcn
    rw [HF.out, hN2] at h
    exact h
  have hpo : ∀ W, Below W9.heap.size W9 W → Calls Try.prog 8 #[.agg #[.int .i64 0, .int .i64 0, .int .i64 1, .int .i64 0, .string ⟨who.toArray⟩, .int .i64 0, .string ⟨sf.toArray⟩, .slice c0 cs.length cp, .string ⟨#[]⟩, .int .i64 0, .string ⟨#[]⟩, .slice none 0 0, .string ⟨#[]⟩, .slice none 0 0, .int .i64 0, .string ⟨#[]⟩, .int .i64 0]] W fun e w' => (∃ a c, e = .returned (.slice a N3 c)) ∧ Below W.heap.size W w' := fun W hW => by
    have h := policy_n who sf c0 cp cs W (hC9.below hW) HNUM.out (by rw [HF.out]; exact hFl) h100 hcn
    rw [HF.out, hN3] at h
    exact h
  have hem : ∀ W, Below W9.heap.size W9 W → Calls Try.prog 8 #[.agg #[.int .i64 3, .int .i64 0, .int .i64 0, .int .i64 0, .string ⟨#[]⟩, .int .i64 0, .string ⟨#[]⟩, .slice none 0 0, .string ⟨#[]⟩, .int .i64 0, .string ⟨#[]⟩, .slice none 0 0, .string ⟨se.toArray⟩, .slice b0 el.length cpe, .int .i64 0, .string ⟨who.toArray⟩, .int .i64 0]] W fun e w' => (∃ a c, e = .returned (.slice a N4 c)) ∧ Below W.heap.size W w' := fun W hW => by
    have h := event_n who se b0 cpe el W (hA9.below hW) HNA.out hG h100 (by omega)
    rw [hGG, hN4] at h
    exact h
  have hee : ∀ W, Below W9.heap.size W9 W → Calls Try.prog 16 #[.agg #[.string ⟨se.toArray⟩, .slice b0 el.length cpe]] W fun e w' => (∃ a c, e = .returned (.slice a G c)) ∧ Below W.heap.size W w' := fun W hW => by
    have h := eventb_any se b0 cpe el W (hA9.below hW) HNA.out (by omega) (by omega)
    refine h.mono ?_
    rintro e w' ⟨⟨a, c, rfl, _⟩, hb⟩
    rw [hGG]
    exact ⟨⟨a, c, rfl⟩, hb⟩
  have HRU := Lib.hid hru; have HSU := Lib.hid hsu; have HPO := Lib.hid hpo; have HEM := Lib.hid hem; have HEE := Lib.hid hee
  have HR9 := Lib.hid hR9; have HB9 := Lib.hid (HB5.out.trans (hK9.mono HB5.out.size))
  have e1 : (3 + (who.length : Int) + 1 + (F : Int) + 1 + 1) = (N1 : Int) := by omega
  have E1 := Lib.hid e1
  obtain ⟨M1, hM1⟩ : ∃ M1, 2 + who.length = M1 := ⟨_, rfl⟩
  obtain ⟨M2, hM2⟩ : ∃ M2, M1 + 16 = M2 := ⟨_, rfl⟩
  have wrl : ∀ x : Int, 0 ≤ x → x < 9223372036854775808 → IntKind.i64.wrap x = x := fun x h0 h1 => by rw [IntKind.wrap_i64]; omega
  have e2 : IntKind.i64.wrap (1 + (F : Int)) = (N2 : Int) := by rw [wrl _ (by omega) (by omega)]; omega
  have e3 : IntKind.i64.wrap (2 + (N1 : Int)) = (N3 : Int) := by rw [wrl _ (by omega) (by omega)]; omega
  have e4 : IntKind.i64.wrap (2 + (who.length : Int)) = (M1 : Int) := by rw [wrl _ (by omega) (by omega)]; omega
  have e5 : IntKind.i64.wrap ((M1 : Int) + 16) = (M2 : Int) := by rw [wrl _ (by omega) (by omega)]; omega
  have e6 : IntKind.i64.wrap ((M2 : Int) + (G : Int)) = (N4 : Int) := by rw [wrl _ (by omega) (by omega)]; omega
  have E5 := Lib.hid e5; have E6 := Lib.hid e6
  have g1 : who.length < 1000 := by omega
  have g2 : F < 10000 := by omega
  have g3 : N1 < 20000 := by omega
  have g4 : G < 10000 := by omega
  have E2 := Lib.hid e2; have E3 := Lib.hid e3; have E4 := Lib.hid e4
  clear wrl hM1 hM2 e5 e6 e1 e2 e3 e4 hru hsu hpo hem hee hR9 hK9 hC9 hA9 hG f0 f1 HX5 HE5 HA5 HB5 HK HF HEL HRI HLI HEV HFL HCS HL HNUM HNA hfl hFl hcn h100 h60 h20 hN1 hN2 hN3 hN4 hGG hc20 hel8 hb9
  go_upto_region 11 with fail
  have e1 := E1.out; have e2 := E2.out; have e3 := E3.out; have e4 := E4.out; have e5 := E5.out; have e6 := E6.out
  first | rw [e1] | (trace_state; fail)
  refine wp_region_held_drew (S := (fun w' => w'.cell? ⟨w.heap.size, 0, none⟩ = some (.string ⟨sf.toArray⟩) ∧ w'.cell? ⟨w.heap.size, 1, none⟩ = some (.slice c0 cs.length cp) ∧ w'.cell? ⟨w.heap.size + 1, 0, none⟩ = some (.string ⟨se.toArray⟩) ∧ w'.cell? ⟨w.heap.size + 1, 1, none⟩ = some (.slice b0 el.length cpe) ∧ w'.cell? ⟨rb, 0, none⟩ = some (.int .i64 1) ∧ w'.cell? ⟨rb, 1, none⟩ = some (.int .i64 0) ∧ w'.cell? ⟨rb, 2, none⟩ = some (.string ⟨who.toArray⟩) ∧ w'.cell? ⟨rb, 3, none⟩ = some (.int .i64 0) ∧ w'.cell? ⟨rb, 4, none⟩ = some (.string ⟨sf.toArray⟩) ∧ w'.cell? ⟨rb, 5, none⟩ = some (.slice c0 cs.length cp) ∧ w'.cell? ⟨rb, 6, none⟩ = some (.string ⟨#[]⟩) ∧ w'.cell? ⟨rb, 7, none⟩ = some (.int .i64 0) ∧ Below W9.heap.size W9 w')) (by kernel_rfl) ?_ (fun hq0 => ?_)
  · ((try dsimp only); (first | exact ws_of HX9.out HE9.out HR9.out (bdrewN (Below.refl _ _) 1) | assumption | exact ws_of HX9.out HE9.out HR9.out (btrans (ws_own (by assumption)) (by assumption))))
  (refine wpAnyH_take (i := 0) (oi := ?_) (v := ?_) ?_ (by kernel_rfl) (by kernel_rfl) (by kernel_rfl) ?_ (Or.inl ⟨?_, ?_⟩) (by assumption) ?_; rotate_left 2; (· (simp only [List.getElem?_toArray, List.getElem?_cons_zero]; first | done | rfl)); (· exact (fun _ _ _ h => h)); (· rfl); (· (intro w hSw; (try dsimp only at hSw); go_simp; (try with_reducible rfl))))
  (try simp only [Act.put, List.setIfInBounds_toArray, List.set_cons_zero, List.set_cons_succ])
  (refine wpAnyH_take (i := 3) (oi := ?_) (v := ?_) ?_ (by kernel_rfl) (by kernel_rfl) (by kernel_rfl) ?_ (Or.inl ⟨?_, ?_⟩) (by assumption) ?_; rotate_left 2; (· (simp only [List.getElem?_toArray, List.getElem?_cons_succ, List.getElem?_cons_zero]; first | done | rfl)); (· exact (fun _ _ _ h => h)); (· rfl); (· (intro w hSw; (try dsimp only at hSw); go_simp; (try with_reducible rfl))))
  (try simp only [Act.put, List.setIfInBounds_toArray, List.set_cons_zero, List.set_cons_succ])
  refine wpAnyH_ready (rs := [1]) (by kernel_rfl) (by simp) ?_
  refine AllReadyH.cons (o := ?_) ?_ (fun K hK => ?_) AllReadyH.nil
  rotate_left 1
  · (simp only [List.getElem?_toArray, List.getElem?_cons_succ, List.getElem?_cons_zero]; first | done | rfl)
  go_simp
  first | (refine hK.out _ _ ?_ (fun hq1 => ?_)) | ((first | (go_at_call 9; (with_reducible refine (HRU.out _ (ws_own (by assumption))).mono ?_); rintro e w9 ⟨⟨a9, c9, rfl⟩, hb9⟩) | (go_at_call 8; (with_reducible refine (HSU.out _ (ws_own (by assumption))).mono ?_); rintro e w9 ⟨⟨a9, c9, rfl⟩, hb9⟩) | (go_at_call 8; (with_reducible refine (HPO.out _ (ws_own (by assumption))).mono ?_); rintro e w9 ⟨⟨a9, c9, rfl⟩, hb9⟩) | (go_at_call 8; (with_reducible refine (HEM.out _ (ws_own (by assumption))).mono ?_); rintro e w9 ⟨⟨a9, c9, rfl⟩, hb9⟩) | (go_at_call 16; (with_reducible refine (HEE.out _ (ws_own (by assumption))).mono ?_); rintro e w9 ⟨⟨a9, c9, rfl⟩, hb9⟩)); refine hK.out _ _ ?_ (fun hq1 => ?_)) | ((first | (go_at_call 9; (with_reducible refine (HRU.out _ (ws_own (by assumption))).mono ?_); rintro e w9 ⟨⟨a9, c9, rfl⟩, hb9⟩) | (go_at_call 8; (with_reducible refine (HSU.out _ (ws_own (by assumption))).mono ?_); rintro e w9 ⟨⟨a9, c9, rfl⟩, hb9⟩) | (go_at_call 8; (with_reducible refine (HPO.out _ (ws_own (by assumption))).mono ?_); rintro e w9 ⟨⟨a9, c9, rfl⟩, hb9⟩) | (go_at_call 8; (with_reducible refine (HEM.out _ (ws_own (by assumption))).mono ?_); rintro e w9 ⟨⟨a9, c9, rfl⟩, hb9⟩) | (go_at_call 16; (with_reducible refine (HEE.out _ (ws_own (by assumption))).mono ?_); rintro e w9 ⟨⟨a9, c9, rfl⟩, hb9⟩)); go_wp2_with fail; refine hK.out _ _ ?_ (fun hq1 => ?_)) | fail
  · ((try dsimp only); (first | exact ws_of HX9.out HE9.out HR9.out (bdrewN (Below.refl _ _) 1) | assumption | exact ws_of HX9.out HE9.out HR9.out (btrans (ws_own (by assumption)) (by assumption))))
  clear hK K
  (try simp only [Act.put, List.setIfInBounds_toArray, List.set_cons_zero, List.set_cons_succ])
  clear hq0
  (refine wpAnyH_take (i := 2) (oi := ?_) (v := ?_) ?_ (by kernel_rfl) (by kernel_rfl) (by kernel_rfl) ?_ (Or.inl ⟨?_, ?_⟩) (by assumption) ?_; rotate_left 2; (· (simp only [List.getElem?_toArray, List.getElem?_cons_succ, List.getElem?_cons_zero]; first | done | rfl)); (· exact (fun _ _ _ h => h)); (· rfl); (· (intro w hSw; (try dsimp only at hSw); go_simp; (try with_reducible rfl))))
  (try simp only [Act.put, List.setIfInBounds_toArray, List.set_cons_zero, List.set_cons_succ])
  (refine wpAnyH_take (i := 4) (oi := ?_) (v := ?_) ?_ (by kernel_rfl) (by kernel_rfl) (by kernel_rfl) ?_ (Or.inl ⟨?_, ?_⟩) (by assumption) ?_; rotate_left 2; (· (simp only [List.getElem?_toArray, List.getElem?_cons_succ, List.getElem?_cons_zero]; first | done | rfl)); (· exact (fun _ _ _ h => h)); (· rfl); (· (intro w hSw; (try dsimp only at hSw); go_simp; (try with_reducible rfl))))
  (try simp only [Act.put, List.setIfInBounds_toArray, List.set_cons_zero, List.set_cons_succ])
  (refine wpAnyH_take (i := 5) (oi := ?_) (v := ?_) ?_ (by kernel_rfl) (by kernel_rfl) (by kernel_rfl) ?_ (Or.inl ⟨?_, ?_⟩) (by assumption) ?_; rotate_left 2; (· (simp only [List.getElem?_toArray, List.getElem?_cons_succ, List.getElem?_cons_zero]; first | done | rfl)); (· exact (fun _ _ _ h => h)); (· rfl); (· (intro w hSw; (try dsimp only at hSw); go_simp; (try with_reducible rfl))))
  (try simp only [Act.put, List.setIfInBounds_toArray, List.set_cons_zero, List.set_cons_succ])
  (refine wpAnyH_take (i := 6) (oi := ?_) (v := ?_) ?_ (by kernel_rfl) (by kernel_rfl) (by kernel_rfl) ?_ (Or.inl ⟨?_, ?_⟩) (by assumption) ?_; rotate_left 2; (· (simp only [List.getElem?_toArray, List.getElem?_cons_succ, List.getElem?_cons_zero]; first | done | rfl)); (· exact (fun _ _ _ h => h)); (· rfl); (· (intro w hSw; (try dsimp only at hSw); go_simp; (try with_reducible rfl))))
  (try simp only [Act.put, List.setIfInBounds_toArray, List.set_cons_zero, List.set_cons_succ])
  (refine wpAnyH_take (i := 7) (oi := ?_) (v := ?_) ?_ (by kernel_rfl) (by kernel_rfl) (by kernel_rfl) ?_ (Or.inl ⟨?_, ?_⟩) (by assumption) ?_; rotate_left 2; (· (simp only [List.getElem?_toArray, List.getElem?_cons_succ, List.getElem?_cons_zero]; first | done | rfl)); (· exact (fun _ _ _ h => h)); (· rfl); (· (intro w hSw; (try dsimp only at hSw); go_simp; (try with_reducible rfl))))
  (try simp only [Act.put, List.setIfInBounds_toArray, List.set_cons_zero, List.set_cons_succ])
  (refine wpAnyH_take (i := 10) (oi := ?_) (v := ?_) ?_ (by kernel_rfl) (by kernel_rfl) (by kernel_rfl) ?_ (Or.inl ⟨?_, ?_⟩) (by assumption) ?_; rotate_left 2; (· (simp only [List.getElem?_toArray, List.getElem?_cons_succ, List.getElem?_cons_zero]; first | done | rfl)); (· exact (fun _ _ _ h => h)); (· rfl); (· (intro w hSw; (try dsimp only at hSw); go_simp; (try with_reducible rfl))))
  (try simp only [Act.put, List.setIfInBounds_toArray, List.set_cons_zero, List.set_cons_succ])
  (refine wpAnyH_take (i := 11) (oi := ?_) (v := ?_) ?_ (by kernel_rfl) (by kernel_rfl) (by kernel_rfl) ?_ (Or.inl ⟨?_, ?_⟩) (by assumption) ?_; rotate_left 2; (· (simp only [List.getElem?_toArray, List.getElem?_cons_succ, List.getElem?_cons_zero]; first | done | rfl)); (· exact (fun _ _ _ h => h)); (· rfl); (· (intro w hSw; (try dsimp only at hSw); go_simp; (try with_reducible rfl))))
  (try simp only [Act.put, List.setIfInBounds_toArray, List.set_cons_zero, List.set_cons_succ])
  refine wpAnyH_ready (rs := [8]) (by kernel_rfl) (by simp) ?_
  refine AllReadyH.cons (o := ?_) ?_ (fun K hK => ?_) AllReadyH.nil
  rotate_left 1
  · (simp only [List.getElem?_toArray, List.getElem?_cons_succ, List.getElem?_cons_zero]; first | done | rfl)
  go_simp
  first | (refine hK.out _ _ ?_ (fun hq2 => ?_)) | ((first | (go_at_call 9; (with_reducible refine (HRU.out _ (ws_own (by assumption))).mono ?_); rintro e w9 ⟨⟨a9, c9, rfl⟩, hb9⟩) | (go_at_call 8; (with_reducible refine (HSU.out _ (ws_own (by assumption))).mono ?_); rintro e w9 ⟨⟨a9, c9, rfl⟩, hb9⟩) | (go_at_call 8; (with_reducible refine (HPO.out _ (ws_own (by assumption))).mono ?_); rintro e w9 ⟨⟨a9, c9, rfl⟩, hb9⟩) | (go_at_call 8; (with_reducible refine (HEM.out _ (ws_own (by assumption))).mono ?_); rintro e w9 ⟨⟨a9, c9, rfl⟩, hb9⟩) | (go_at_call 16; (with_reducible refine (HEE.out _ (ws_own (by assumption))).mono ?_); rintro e w9 ⟨⟨a9, c9, rfl⟩, hb9⟩)); refine hK.out _ _ ?_ (fun hq2 => ?_)) | ((first | (go_at_call 9; (with_reducible refine (HRU.out _ (ws_own (by assumption))).mono ?_); rintro e w9 ⟨⟨a9, c9, rfl⟩, hb9⟩) | (go_at_call 8; (with_reducible refine (HSU.out _ (ws_own (by assumption))).mono ?_); rintro e w9 ⟨⟨a9, c9, rfl⟩, hb9⟩) | (go_at_call 8; (with_reducible refine (HPO.out _ (ws_own (by assumption))).mono ?_); rintro e w9 ⟨⟨a9, c9, rfl⟩, hb9⟩) | (go_at_call 8; (with_reducible refine (HEM.out _ (ws_own (by assumption))).mono ?_); rintro e w9 ⟨⟨a9, c9, rfl⟩, hb9⟩) | (go_at_call 16; (with_reducible refine (HEE.out _ (ws_own (by assumption))).mono ?_); rintro e w9 ⟨⟨a9, c9, rfl⟩, hb9⟩)); go_wp2_with fail; refine hK.out _ _ ?_ (fun hq2 => ?_)) | fail
  · ((try dsimp only); (first | exact ws_of HX9.out HE9.out HR9.out (bdrewN (Below.refl _ _) 1) | assumption | exact ws_of HX9.out HE9.out HR9.out (btrans (ws_own (by assumption)) (by assumption))))
  clear hK K
  (try simp only [Act.put, List.setIfInBounds_toArray, List.set_cons_zero, List.set_cons_succ])
  clear hq1
  (refine wpAnyH_take (i := 9) (oi := ?_) (v := ?_) ?_ (by kernel_rfl) (by kernel_rfl) (by kernel_rfl) ?_ (Or.inl ⟨?_, ?_⟩) (by assumption) ?_; rotate_left 2; (· (simp only [List.getElem?_toArray, List.getElem?_cons_succ, List.getElem?_cons_zero]; first | done | rfl)); (· exact (fun _ _ _ h => h)); (· rfl); (· (intro w hSw; (try dsimp only at hSw); go_simp; (try with_reducible rfl))))
  (try simp only [Act.put, List.setIfInBounds_toArray, List.set_cons_zero, List.set_cons_succ])
  (refine wpAnyH_take (i := 12) (oi := ?_) (v := ?_) ?_ (by kernel_rfl) (by kernel_rfl) (by kernel_rfl) ?_ (Or.inl ⟨?_, ?_⟩) (by assumption) ?_; rotate_left 2; (· (simp only [List.getElem?_toArray, List.getElem?_cons_succ, List.getElem?_cons_zero]; first | done | rfl)); (· exact (fun _ _ _ h => h)); (· rfl); (· (intro w hSw; (try dsimp only at hSw); go_simp; (try with_reducible rfl))))
  (try simp only [Act.put, List.setIfInBounds_toArray, List.set_cons_zero, List.set_cons_succ])
  (refine wpAnyH_take (i := 13) (oi := ?_) (v := ?_) ?_ (by kernel_rfl) (by kernel_rfl) (by kernel_rfl) ?_ (Or.inl ⟨?_, ?_⟩) (by assumption) ?_; rotate_left 2; (· (simp only [List.getElem?_toArray, List.getElem?_cons_succ, List.getElem?_cons_zero]; first | done | rfl)); (· exact (fun _ _ _ h => h)); (· rfl); (· (intro w hSw; (try dsimp only at hSw); go_simp; (try with_reducible rfl))))
  (try simp only [Act.put, List.setIfInBounds_toArray, List.set_cons_zero, List.set_cons_succ])
  (refine wpAnyH_take (i := 14) (oi := ?_) (v := ?_) ?_ (by kernel_rfl) (by kernel_rfl) (by kernel_rfl) ?_ (Or.inl ⟨?_, ?_⟩) (by assumption) ?_; rotate_left 2; (· (simp only [List.getElem?_toArray, List.getElem?_cons_succ, List.getElem?_cons_zero]; first | done | rfl)); (· exact (fun _ _ _ h => h)); (· rfl); (· (intro w hSw; (try dsimp only at hSw); go_simp; (try with_reducible rfl))))
  (try simp only [Act.put, List.setIfInBounds_toArray, List.set_cons_zero, List.set_cons_succ])
  (refine wpAnyH_take (i := 15) (oi := ?_) (v := ?_) ?_ (by kernel_rfl) (by kernel_rfl) (by kernel_rfl) ?_ (Or.inl ⟨?_, ?_⟩) (by assumption) ?_; rotate_left 2; (· (simp only [List.getElem?_toArray, List.getElem?_cons_succ, List.getElem?_cons_zero]; first | done | rfl)); (· exact (fun _ _ _ h => h)); (· rfl); (· (intro w hSw; (try dsimp only at hSw); go_simp; (try with_reducible rfl))))
  (try simp only [Act.put, List.setIfInBounds_toArray, List.set_cons_zero, List.set_cons_succ])
  (refine wpAnyH_take (i := 16) (oi := ?_) (v := ?_) ?_ (by kernel_rfl) (by kernel_rfl) (by kernel_rfl) ?_ (Or.inl ⟨?_, ?_⟩) (by assumption) ?_; rotate_left 2; (· (simp only [List.getElem?_toArray, List.getElem?_cons_succ, List.getElem?_cons_zero]; first | done | rfl)); (· exact (fun _ _ _ h => h)); (· rfl); (· (intro w hSw; (try dsimp only at hSw); go_simp; (try with_reducible rfl))))
  (try simp only [Act.put, List.setIfInBounds_toArray, List.set_cons_zero, List.set_cons_succ])
  (refine wpAnyH_take (i := 19) (oi := ?_) (v := ?_) ?_ (by kernel_rfl) (by kernel_rfl) (by kernel_rfl) ?_ (Or.inl ⟨?_, ?_⟩) (by assumption) ?_; rotate_left 2; (· (simp only [List.getElem?_toArray, List.getElem?_cons_succ, List.getElem?_cons_zero]; first | done | rfl)); (· exact (fun _ _ _ h => h)); (· rfl); (· (intro w hSw; (try dsimp only at hSw); go_simp; (try with_reducible rfl))))
  (try simp only [Act.put, List.setIfInBounds_toArray, List.set_cons_zero, List.set_cons_succ])
  (refine wpAnyH_take (i := 20) (oi := ?_) (v := ?_) ?_ (by kernel_rfl) (by kernel_rfl) (by kernel_rfl) ?_ (Or.inl ⟨?_, ?_⟩) (by assumption) ?_; rotate_left 2; (· (simp only [List.getElem?_toArray, List.getElem?_cons_succ, List.getElem?_cons_zero]; first | done | rfl)); (· exact (fun _ _ _ h => h)); (· rfl); (· (intro w hSw; (try dsimp only at hSw); go_simp; (try with_reducible rfl))))
  (try simp only [Act.put, List.setIfInBounds_toArray, List.set_cons_zero, List.set_cons_succ])
  refine wpAnyH_ready (rs := [17]) (by kernel_rfl) (by simp) ?_
  refine AllReadyH.cons (o := ?_) ?_ (fun K hK => ?_) AllReadyH.nil
  rotate_left 1
  · (simp only [List.getElem?_toArray, List.getElem?_cons_succ, List.getElem?_cons_zero]; first | done | rfl)
  go_simp
  first | (refine hK.out _ _ ?_ (fun hq3 => ?_)) | ((first | (go_at_call 9; (with_reducible refine (HRU.out _ (ws_own (by assumption))).mono ?_); rintro e w9 ⟨⟨a9, c9, rfl⟩, hb9⟩) | (go_at_call 8; (with_reducible refine (HSU.out _ (ws_own (by assumption))).mono ?_); rintro e w9 ⟨⟨a9, c9, rfl⟩, hb9⟩) | (go_at_call 8; (with_reducible refine (HPO.out _ (ws_own (by assumption))).mono ?_); rintro e w9 ⟨⟨a9, c9, rfl⟩, hb9⟩) | (go_at_call 8; (with_reducible refine (HEM.out _ (ws_own (by assumption))).mono ?_); rintro e w9 ⟨⟨a9, c9, rfl⟩, hb9⟩) | (go_at_call 16; (with_reducible refine (HEE.out _ (ws_own (by assumption))).mono ?_); rintro e w9 ⟨⟨a9, c9, rfl⟩, hb9⟩)); refine hK.out _ _ ?_ (fun hq3 => ?_)) | ((first | (go_at_call 9; (with_reducible refine (HRU.out _ (ws_own (by assumption))).mono ?_); rintro e w9 ⟨⟨a9, c9, rfl⟩, hb9⟩) | (go_at_call 8; (with_reducible refine (HSU.out _ (ws_own (by assumption))).mono ?_); rintro e w9 ⟨⟨a9, c9, rfl⟩, hb9⟩) | (go_at_call 8; (with_reducible refine (HPO.out _ (ws_own (by assumption))).mono ?_); rintro e w9 ⟨⟨a9, c9, rfl⟩, hb9⟩) | (go_at_call 8; (with_reducible refine (HEM.out _ (ws_own (by assumption))).mono ?_); rintro e w9 ⟨⟨a9, c9, rfl⟩, hb9⟩) | (go_at_call 16; (with_reducible refine (HEE.out _ (ws_own (by assumption))).mono ?_); rintro e w9 ⟨⟨a9, c9, rfl⟩, hb9⟩)); go_wp2_with fail; refine hK.out _ _ ?_ (fun hq3 => ?_)) | fail
  · ((try dsimp only); (first | exact ws_of HX9.out HE9.out HR9.out (bdrewN (Below.refl _ _) 1) | assumption | exact ws_of HX9.out HE9.out HR9.out (btrans (ws_own (by assumption)) (by assumption))))
  clear hK K
  (try simp only [Act.put, List.setIfInBounds_toArray, List.set_cons_zero, List.set_cons_succ])
  clear hq2
  (refine wpAnyH_take (i := 18) (oi := ?_) (v := ?_) ?_ (by kernel_rfl) (by kernel_rfl) (by kernel_rfl) ?_ (Or.inl ⟨?_, ?_⟩) (by assumption) ?_; rotate_left 2; (· (simp only [List.getElem?_toArray, List.getElem?_cons_succ, List.getElem?_cons_zero]; first | done | rfl)); (· exact (fun _ _ _ h => h)); (· rfl); (· (intro w hSw; (try dsimp only at hSw); go_simp; (try with_reducible rfl))))
  (try simp only [Act.put, List.setIfInBounds_toArray, List.set_cons_zero, List.set_cons_succ])
  (refine wpAnyH_take (i := 21) (oi := ?_) (v := ?_) ?_ (by kernel_rfl) (by kernel_rfl) (by kernel_rfl) ?_ (Or.inl ⟨?_, ?_⟩) (by assumption) ?_; rotate_left 2; (· (simp only [List.getElem?_toArray, List.getElem?_cons_succ, List.getElem?_cons_zero]; first | done | rfl)); (· exact (fun _ _ _ h => h)); (· rfl); (· (intro w hSw; (try dsimp only at hSw); go_simp; (try with_reducible rfl))))
  (try simp only [Act.put, List.setIfInBounds_toArray, List.set_cons_zero, List.set_cons_succ])
  (refine wpAnyH_take (i := 22) (oi := ?_) (v := ?_) ?_ (by kernel_rfl) (by kernel_rfl) (by kernel_rfl) ?_ (Or.inl ⟨?_, ?_⟩) (by assumption) ?_; rotate_left 2; (· (simp only [List.getElem?_toArray, List.getElem?_cons_succ, List.getElem?_cons_zero]; first | done | rfl)); (· exact (fun _ _ _ h => h)); (· rfl); (· (intro w hSw; (try dsimp only at hSw); go_simp; (try with_reducible rfl))))
  (try simp only [Act.put, List.setIfInBounds_toArray, List.set_cons_zero, List.set_cons_succ])
  (refine wpAnyH_take (i := 23) (oi := ?_) (v := ?_) ?_ (by kernel_rfl) (by kernel_rfl) (by kernel_rfl) ?_ (Or.inl ⟨?_, ?_⟩) (by assumption) ?_; rotate_left 2; (· (simp only [List.getElem?_toArray, List.getElem?_cons_succ, List.getElem?_cons_zero]; first | done | rfl)); (· exact (fun _ _ _ h => h)); (· rfl); (· (intro w hSw; (try dsimp only at hSw); go_simp; (try with_reducible rfl))))
  (try simp only [Act.put, List.setIfInBounds_toArray, List.set_cons_zero, List.set_cons_succ])
  (refine wpAnyH_take (i := 24) (oi := ?_) (v := ?_) ?_ (by kernel_rfl) (by kernel_rfl) (by kernel_rfl) ?_ (Or.inl ⟨?_, ?_⟩) (by assumption) ?_; rotate_left 2; (· (simp only [List.getElem?_toArray, List.getElem?_cons_succ, List.getElem?_cons_zero]; first | done | rfl)); (· exact (fun _ _ _ h => h)); (· rfl); (· (intro w hSw; (try dsimp only at hSw); go_simp; (try with_reducible rfl))))
  (try simp only [Act.put, List.setIfInBounds_toArray, List.set_cons_zero, List.set_cons_succ])
  (refine wpAnyH_take (i := 25) (oi := ?_) (v := ?_) ?_ (by kernel_rfl) (by kernel_rfl) (by kernel_rfl) ?_ (Or.inl ⟨?_, ?_⟩) (by assumption) ?_; rotate_left 2; (· (simp only [List.getElem?_toArray, List.getElem?_cons_succ, List.getElem?_cons_zero]; first | done | rfl)); (· exact (fun _ _ _ h => h)); (· rfl); (· (intro w hSw; (try dsimp only at hSw); go_simp; (try with_reducible rfl))))
  (try simp only [Act.put, List.setIfInBounds_toArray, List.set_cons_zero, List.set_cons_succ])
  (refine wpAnyH_take (i := 26) (oi := ?_) (v := ?_) ?_ (by kernel_rfl) (by kernel_rfl) (by kernel_rfl) ?_ (Or.inl ⟨?_, ?_⟩) (by assumption) ?_; rotate_left 2; (· (simp only [List.getElem?_toArray, List.getElem?_cons_succ, List.getElem?_cons_zero]; first | done | rfl)); (· exact (fun _ _ _ h => h)); (· rfl); (· (intro w hSw; (try dsimp only at hSw); go_simp; (try with_reducible rfl))))
  (try simp only [Act.put, List.setIfInBounds_toArray, List.set_cons_zero, List.set_cons_succ])
  (refine wpAnyH_take (i := 29) (oi := ?_) (v := ?_) ?_ (by kernel_rfl) (by kernel_rfl) (by kernel_rfl) ?_ (Or.inl ⟨?_, ?_⟩) (by assumption) ?_; rotate_left 2; (· (simp only [List.getElem?_toArray, List.getElem?_cons_succ, List.getElem?_cons_zero]; first | done | rfl)); (· exact (fun _ _ _ h => h)); (· rfl); (· (intro w hSw; (try dsimp only at hSw); go_simp; (try with_reducible rfl))))
  (try simp only [Act.put, List.setIfInBounds_toArray, List.set_cons_zero, List.set_cons_succ])
  (refine wpAnyH_take (i := 30) (oi := ?_) (v := ?_) ?_ (by kernel_rfl) (by kernel_rfl) (by kernel_rfl) ?_ (Or.inl ⟨?_, ?_⟩) (by assumption) ?_; rotate_left 2; (· (simp only [List.getElem?_toArray, List.getElem?_cons_succ, List.getElem?_cons_zero]; first | done | rfl)); (· exact (fun _ _ _ h => h)); (· rfl); (· (intro w hSw; (try dsimp only at hSw); go_simp; (try with_reducible rfl))))
  (try simp only [Act.put, List.setIfInBounds_toArray, List.set_cons_zero, List.set_cons_succ])
  (refine wpAnyH_take (i := 31) (oi := ?_) (v := ?_) ?_ (by kernel_rfl) (by kernel_rfl) (by kernel_rfl) ?_ (Or.inl ⟨?_, ?_⟩) (by assumption) ?_; rotate_left 2; (· (simp only [List.getElem?_toArray, List.getElem?_cons_succ, List.getElem?_cons_zero]; first | done | rfl)); (· exact (fun _ _ _ h => h)); (· rfl); (· (intro w hSw; (try dsimp only at hSw); go_simp; (try with_reducible rfl))))
  (try simp only [Act.put, List.setIfInBounds_toArray, List.set_cons_zero, List.set_cons_succ])
  (refine wpAnyH_take (i := 32) (oi := ?_) (v := ?_) ?_ (by kernel_rfl) (by kernel_rfl) (by kernel_rfl) ?_ (Or.inl ⟨?_, ?_⟩) (by assumption) ?_; rotate_left 2; (· (simp only [List.getElem?_toArray, List.getElem?_cons_succ, List.getElem?_cons_zero]; first | done | rfl)); (· exact (fun _ _ _ h => h)); (· rfl); (· (intro w hSw; (try dsimp only at hSw); go_simp; (try with_reducible rfl))))
  (try simp only [Act.put, List.setIfInBounds_toArray, List.set_cons_zero, List.set_cons_succ])
  (refine wpAnyH_take (i := 33) (oi := ?_) (v := ?_) ?_ (by kernel_rfl) (by kernel_rfl) (by kernel_rfl) ?_ (Or.inl ⟨?_, ?_⟩) (by assumption) ?_; rotate_left 2; (· (simp only [List.getElem?_toArray, List.getElem?_cons_succ, List.getElem?_cons_zero]; first | done | rfl)); (· exact (fun _ _ _ h => h)); (· rfl); (· (intro w hSw; (try dsimp only at hSw); go_simp; (try with_reducible rfl))))
  (try simp only [Act.put, List.setIfInBounds_toArray, List.set_cons_zero, List.set_cons_succ])
  refine wpAnyH_ready (rs := [27]) (by kernel_rfl) (by simp) ?_
  refine AllReadyH.cons (o := ?_) ?_ (fun K hK => ?_) AllReadyH.nil
  rotate_left 1
  · (simp only [List.getElem?_toArray, List.getElem?_cons_succ, List.getElem?_cons_zero]; first | done | rfl)
  go_simp
  first | (refine hK.out _ _ ?_ (fun hq4 => ?_)) | ((first | (go_at_call 9; (with_reducible refine (HRU.out _ (ws_own (by assumption))).mono ?_); rintro e w9 ⟨⟨a9, c9, rfl⟩, hb9⟩) | (go_at_call 8; (with_reducible refine (HSU.out _ (ws_own (by assumption))).mono ?_); rintro e w9 ⟨⟨a9, c9, rfl⟩, hb9⟩) | (go_at_call 8; (with_reducible refine (HPO.out _ (ws_own (by assumption))).mono ?_); rintro e w9 ⟨⟨a9, c9, rfl⟩, hb9⟩) | (go_at_call 8; (with_reducible refine (HEM.out _ (ws_own (by assumption))).mono ?_); rintro e w9 ⟨⟨a9, c9, rfl⟩, hb9⟩) | (go_at_call 16; (with_reducible refine (HEE.out _ (ws_own (by assumption))).mono ?_); rintro e w9 ⟨⟨a9, c9, rfl⟩, hb9⟩)); refine hK.out _ _ ?_ (fun hq4 => ?_)) | ((first | (go_at_call 9; (with_reducible refine (HRU.out _ (ws_own (by assumption))).mono ?_); rintro e w9 ⟨⟨a9, c9, rfl⟩, hb9⟩) | (go_at_call 8; (with_reducible refine (HSU.out _ (ws_own (by assumption))).mono ?_); rintro e w9 ⟨⟨a9, c9, rfl⟩, hb9⟩) | (go_at_call 8; (with_reducible refine (HPO.out _ (ws_own (by assumption))).mono ?_); rintro e w9 ⟨⟨a9, c9, rfl⟩, hb9⟩) | (go_at_call 8; (with_reducible refine (HEM.out _ (ws_own (by assumption))).mono ?_); rintro e w9 ⟨⟨a9, c9, rfl⟩, hb9⟩) | (go_at_call 16; (with_reducible refine (HEE.out _ (ws_own (by assumption))).mono ?_); rintro e w9 ⟨⟨a9, c9, rfl⟩, hb9⟩)); go_wp2_with fail; refine hK.out _ _ ?_ (fun hq4 => ?_)) | fail
  · ((try dsimp only); (first | exact ws_of HX9.out HE9.out HR9.out (bdrewN (Below.refl _ _) 1) | assumption | exact ws_of HX9.out HE9.out HR9.out (btrans (ws_own (by assumption)) (by assumption))))
  clear hK K
  (try simp only [Act.put, List.setIfInBounds_toArray, List.set_cons_zero, List.set_cons_succ])
  clear hq3
  (refine wpAnyH_take (i := 28) (oi := ?_) (v := ?_) ?_ (by kernel_rfl) (by kernel_rfl) (by kernel_rfl) ?_ (Or.inl ⟨?_, ?_⟩) (by assumption) ?_; rotate_left 2; (· (simp only [List.getElem?_toArray, List.getElem?_cons_succ, List.getElem?_cons_zero]; first | done | rfl)); (· exact (fun _ _ _ h => h)); (· rfl); (· (intro w hSw; (try dsimp only at hSw); go_simp; (try with_reducible rfl))))
  (try simp only [Act.put, List.setIfInBounds_toArray, List.set_cons_zero, List.set_cons_succ])
  refine wpAnyH_ready (rs := [34]) (by kernel_rfl) (by simp) ?_
  refine AllReadyH.cons (o := ?_) ?_ (fun K hK => ?_) AllReadyH.nil
  rotate_left 1
  · (simp only [List.getElem?_toArray, List.getElem?_cons_succ, List.getElem?_cons_zero]; first | done | rfl)
  go_simp
  first | (refine hK.out _ _ ?_ (fun hq5 => ?_)) | ((first | (go_at_call 9; (with_reducible refine (HRU.out _ (ws_own (by assumption))).mono ?_); rintro e w9 ⟨⟨a9, c9, rfl⟩, hb9⟩) | (go_at_call 8; (with_reducible refine (HSU.out _ (ws_own (by assumption))).mono ?_); rintro e w9 ⟨⟨a9, c9, rfl⟩, hb9⟩) | (go_at_call 8; (with_reducible refine (HPO.out _ (ws_own (by assumption))).mono ?_); rintro e w9 ⟨⟨a9, c9, rfl⟩, hb9⟩) | (go_at_call 8; (with_reducible refine (HEM.out _ (ws_own (by assumption))).mono ?_); rintro e w9 ⟨⟨a9, c9, rfl⟩, hb9⟩) | (go_at_call 16; (with_reducible refine (HEE.out _ (ws_own (by assumption))).mono ?_); rintro e w9 ⟨⟨a9, c9, rfl⟩, hb9⟩)); refine hK.out _ _ ?_ (fun hq5 => ?_)) | ((first | (go_at_call 9; (with_reducible refine (HRU.out _ (ws_own (by assumption))).mono ?_); rintro e w9 ⟨⟨a9, c9, rfl⟩, hb9⟩) | (go_at_call 8; (with_reducible refine (HSU.out _ (ws_own (by assumption))).mono ?_); rintro e w9 ⟨⟨a9, c9, rfl⟩, hb9⟩) | (go_at_call 8; (with_reducible refine (HPO.out _ (ws_own (by assumption))).mono ?_); rintro e w9 ⟨⟨a9, c9, rfl⟩, hb9⟩) | (go_at_call 8; (with_reducible refine (HEM.out _ (ws_own (by assumption))).mono ?_); rintro e w9 ⟨⟨a9, c9, rfl⟩, hb9⟩) | (go_at_call 16; (with_reducible refine (HEE.out _ (ws_own (by assumption))).mono ?_); rintro e w9 ⟨⟨a9, c9, rfl⟩, hb9⟩)); go_wp2_with fail; refine hK.out _ _ ?_ (fun hq5 => ?_)) | fail
  · ((try dsimp only); (first | exact ws_of HX9.out HE9.out HR9.out (bdrewN (Below.refl _ _) 1) | assumption | exact ws_of HX9.out HE9.out HR9.out (btrans (ws_own (by assumption)) (by assumption))))
  clear hK K
  (try simp only [Act.put, List.setIfInBounds_toArray, List.set_cons_zero, List.set_cons_succ])
  clear hq4
  (refine wpAnyH_take (i := 35) (oi := ?_) (v := ?_) ?_ (by kernel_rfl) (by kernel_rfl) (by kernel_rfl) ?_ (Or.inl ⟨?_, ?_⟩) (by assumption) ?_; rotate_left 2; (· (simp only [List.getElem?_toArray, List.getElem?_cons_succ, List.getElem?_cons_zero]; first | done | rfl)); (· exact (fun _ _ _ h => h)); (· rfl); (· (intro w hSw; (try dsimp only at hSw); go_simp; (try with_reducible rfl))))
  (try simp only [Act.put, List.setIfInBounds_toArray, List.set_cons_zero, List.set_cons_succ])
  (refine wpAnyH_take (i := 36) (oi := ?_) (v := ?_) ?_ (by kernel_rfl) (by kernel_rfl) (by kernel_rfl) ?_ (Or.inl ⟨?_, ?_⟩) (by assumption) ?_; rotate_left 2; (· (simp only [List.getElem?_toArray, List.getElem?_cons_succ, List.getElem?_cons_zero]; first | done | rfl)); (· exact (fun _ _ _ h => h)); (· rfl); (· (intro w hSw; (try dsimp only at hSw); go_simp; (try with_reducible rfl))))
  (try simp only [Act.put, List.setIfInBounds_toArray, List.set_cons_zero, List.set_cons_succ])
  (refine wpAnyH_take (i := 37) (oi := ?_) (v := ?_) ?_ (by kernel_rfl) (by kernel_rfl) (by kernel_rfl) ?_ (Or.inl ⟨?_, ?_⟩) (by assumption) ?_; rotate_left 2; (· (simp only [List.getElem?_toArray, List.getElem?_cons_succ, List.getElem?_cons_zero]; first | done | rfl)); (· exact (fun _ _ _ h => h)); (· rfl); (· (intro w hSw; (try dsimp only at hSw); go_simp; (try with_reducible rfl))))
  (try simp only [Act.put, List.setIfInBounds_toArray, List.set_cons_zero, List.set_cons_succ])
  (refine wpAnyH_take (i := 38) (oi := ?_) (v := ?_) ?_ (by kernel_rfl) (by kernel_rfl) (by kernel_rfl) ?_ (Or.inl ⟨?_, ?_⟩) (by assumption) ?_; rotate_left 2; (· (simp only [List.getElem?_toArray, List.getElem?_cons_succ, List.getElem?_cons_zero]; first | done | rfl)); (· exact (fun _ _ _ h => h)); (· rfl); (· (intro w hSw; (try dsimp only at hSw); go_simp; (try with_reducible rfl))))
  (try simp only [Act.put, List.setIfInBounds_toArray, List.set_cons_zero, List.set_cons_succ])
  (refine wpAnyH_take (i := 39) (oi := ?_) (v := ?_) ?_ (by kernel_rfl) (by kernel_rfl) (by kernel_rfl) ?_ (Or.inl ⟨?_, ?_⟩) (by assumption) ?_; rotate_left 2; (· (simp only [List.getElem?_toArray, List.getElem?_cons_succ, List.getElem?_cons_zero]; first | done | rfl)); (· exact (fun _ _ _ h => h)); (· rfl); (· (intro w hSw; (try dsimp only at hSw); go_simp; (try with_reducible rfl))))
  (try simp only [Act.put, List.setIfInBounds_toArray, List.set_cons_zero, List.set_cons_succ])
  refine wpAnyH_done (by kernel_rfl) ?_ _
  go_wp2_with fail
  go_ret
  exact ⟨rfl, HB9.out.trans ((ws_own (by assumption)).mono HB9.out.size)⟩
end Go.Proofs.Ytpbdgbejcdncgaa.Wire
end

section
/- A FILTER AS AN ARGUMENT. -/
namespace Go.Proofs.Ytpbdgbejcdncgaa.Open
open Go.ChangeShapes Go.WideShapes Go.ChangeAt Go.RowKit Go.Deep
def COk (c : Val.C) : Prop := CondOk c.name c.op c.val.kind c.val.int c.val.num c.val.text
section
variable {H : Type} {enc : TypeId × Value → H} {w : World} {base : Nat} {spare : Nat → Bool} {held : Bool}
set_option maxRecDepth 100000 in
theorem leaf_conds {W : List Nat} (hr : ∀ k ∈ W, k ≤ 140737488351232) {v : Value} (h : Leaf enc Try.prog w base spare held W 24 v) :
    ∃ (a0 : Option Addr) (cap : Nat) (l : List Val.C), v = .slice a0 l.length cap ∧ l.length ≤ cap ∧ cap ≤ maxLen ∧ Val.Conds w a0 l ∧ (∀ x ∈ l, COk x) ∧ (a0 = none → l = [] ∧ cap = 0) := by
  have hu : Try.prog.underlying 24 = some (.slice 72) := Try.underlying24
  have hce : Try.prog.cellsOf 72 = 7 := by kernel_rfl
  obtain ⟨fuel, ⟨d, pp⟩, hf, hW⟩ := h
  rcases open_slice hu hf with ⟨h0, _⟩ | ⟨a, len, cap, m, n, D, Pl, h0, hb, hl, hm, hmm, hx, hel⟩
  · have he : v = .slice none 0 0 := by simpa using h0
    subst he
    exact ⟨none, 0, [], rfl, Nat.le_refl _, Nat.zero_le _, fun _ h => absurd h (Nat.not_lt_zero _), fun _ hx => (nomatch hx), fun _ => ⟨rfl, rfl⟩⟩
  · have he : v = .slice (some a) len cap := by simpa using h0
    subst he
    have hlm : len ≤ m := by rw [hmm]; split <;> omega
    have each : ∀ i, i < len → ∃ x : Val.C, Val.CAt w (a.add (i * 7)) x ∧ COk x := by
      intro i hi
      obtain ⟨cs', h1, h2⟩ := hel i (by omega)
      rw [hce] at h1
      obtain ⟨_, hlen, hcell⟩ := World.cells?_some h1
      have hcs := cells_of 3 cond_packed h2 (by rw [hlen, hce])
      rw [cond_leaves] at hcs
      have hw : ∀ k ∈ DataW.weights Try.prog 72 (D i), k ≤ 140737488351232 := by
        intro k hk
        refine hr k (hW k ?_)
        have hd : d = .slice ((List.range len).map D) ((List.range (m - len)).map fun j => D (len + j)) := congrArg Prod.fst hx
        rw [hd]
        simp only [DataW.weights, hu]
        exact List.mem_cons_of_mem _ (List.mem_append_left _ (weightsAll_mem (List.mem_map.2 ⟨i, List.mem_range.2 hi, rfl⟩) k hk))
      obtain ⟨nm, op, k, nn, x, t, y, us, e, ok, hn⟩ := cond_cells hw (ts := []) hcs
      rw [hn.nil, List.append_nil] at e
      subst e
      refine ⟨⟨nm, op, ⟨k, nn, x, t, y⟩⟩, ⟨?_, ?_, ?_, ?_, ?_, ?_, ?_⟩, ok⟩
      · exact hcell 0 (by decide)
      · exact hcell 1 (by decide)
      · exact hcell 2 (by decide)
      · exact hcell 3 (by decide)
      · exact hcell 4 (by decide)
      · exact hcell 5 (by decide)
      · exact hcell 6 (by decide)
    obtain ⟨F, hF⟩ := choose_lt each
    refine ⟨some a, cap, (List.range len).map F, by simp, by simpa using hl, hm, fun i hi => ⟨a, rfl, ?_⟩, fun x hx => ?_, fun e => by cases e⟩
    · have hi' : i < len := by simpa using hi
      have : ((List.range len).map F)[i] = F i := by simp
      rw [this]
      exact (hF i hi').1
    · obtain ⟨i, hi, rfl⟩ := List.mem_map.1 hx
      exact (hF i (List.mem_range.1 hi)).2
theorem filter_leaves : leaves Try.prog 3 26 = [9, 24] := by kernel_rfl
theorem filter_packed : packed Try.prog 3 26 = true := by kernel_rfl
theorem filter_cells {W : List Nat} (hr : ∀ k ∈ W, k ≤ 140737488351232) {vs : List Value} (h : Cells enc Try.prog w base spare held W [9, 24] vs) :
    ∃ (sc : List UInt8) (a0 : Option Addr) (cap : Nat) (l : List Val.C), vs = [.string ⟨sc.toArray⟩, .slice a0 l.length cap] ∧ sc.length ≤ 140737488351232 ∧ l.length ≤ cap ∧ cap ≤ maxLen ∧ Val.Conds w a0 l ∧ (∀ x ∈ l, COk x) ∧ (a0 = none → l = [] ∧ cap = 0) := by
  obtain ⟨v0, u0, rfl, h0, r0⟩ := h.cons
  obtain ⟨v1, u1, rfl, h1, r1⟩ := r0.cons
  obtain ⟨sc, rfl, w0⟩ := h0.string Try.underlying9
  obtain ⟨a0, cap, l, rfl, q, m, s, k, n⟩ := leaf_conds hr h1
  exact ⟨sc, a0, cap, l, by rw [r1.nil], hr _ w0, q, m, s, k, n⟩
set_option maxRecDepth 100000 in
theorem open_filter {r : Reach} {b0 : Nat} {v : Value} {d : DataW H} {p : List MemPlace} (hv : Value.okWide Try.prog w r b0 26 v) (h : DataW.Trod enc Try.prog w base spare held 26 v d p)
    (hr : ∀ k ∈ DataW.weights Try.prog 26 d, k ≤ 140737488351232) :
    ∃ (sc : List UInt8) (a0 : Option Addr) (cap : Nat) (l : List Val.C), v = .agg #[.string ⟨sc.toArray⟩, .slice a0 l.length cap] ∧ sc.length ≤ 140737488351232 ∧ l.length ≤ cap ∧ cap ≤ maxLen ∧ Val.Conds w a0 l ∧ (∀ x ∈ l, COk x) ∧ (a0 = none → l = [] ∧ cap = 0) := by
  obtain ⟨cs, rfl, hc⟩ := arg_cells 3 Try.underlying26 filter_packed hv h
  rw [filter_leaves] at hc
  obtain ⟨sc, a0, cap, l, e, rest⟩ := filter_cells hr hc
  exact ⟨sc, a0, cap, l, by rw [← e], rest⟩
end
end Go.Proofs.Ytpbdgbejcdncgaa.Open
end

section
/- AN EVENT AS AN ARGUMENT. -/
namespace Go.Proofs.Ytpbdgbejcdncgaa.Open
open Go.ChangeShapes Go.WideShapes Go.ChangeAt Go.RowKit Go.Deep
section
variable {H : Type} {enc : TypeId × Value → H} {w : World} {base : Nat} {spare : Nat → Bool} {held : Bool}
set_option maxRecDepth 100000 in
theorem leaf_attrs {W : List Nat} (hr : ∀ k ∈ W, k ≤ 140737488351232) {v : Value} (h : Leaf enc Try.prog w base spare held W 29 v) :
    ∃ (a0 : Option Addr) (cap : Nat) (l : List Val.A), v = .slice a0 l.length cap ∧ l.length ≤ cap ∧ cap ≤ maxLen ∧ Val.Attrs w a0 l ∧ (∀ x ∈ l, AOk x) ∧ (a0 = none → l = [] ∧ cap = 0) := by
  have hu : Try.prog.underlying 29 = some (.slice 76) := Try.underlying29
  have hce : Try.prog.cellsOf 76 = 6 := by kernel_rfl
  obtain ⟨fuel, ⟨d, pp⟩, hf, hW⟩ := h
  rcases open_slice hu hf with ⟨h0, _⟩ | ⟨a, len, cap, m, n, D, Pl, h0, hb, hl, hm, hmm, hx, hel⟩
  · have he : v = .slice none 0 0 := by simpa using h0
    subst he
    exact ⟨none, 0, [], rfl, Nat.le_refl _, Nat.zero_le _, fun _ h => absurd h (Nat.not_lt_zero _), fun _ hx => (nomatch hx), fun _ => ⟨rfl, rfl⟩⟩
  · have he : v = .slice (some a) len cap := by simpa using h0
    subst he
    have hlm : len ≤ m := by rw [hmm]; split <;> omega
    have each : ∀ i, i < len → ∃ x : Val.A, Val.AAt w (a.add (i * 6)) x ∧ AOk x := by
      intro i hi
      obtain ⟨cs', h1, h2⟩ := hel i (by omega)
      rw [hce] at h1
      obtain ⟨_, hlen, hcell⟩ := World.cells?_some h1
      have hcs := cells_of 3 attr_packed h2 (by rw [hlen, hce])
      rw [attr_leaves] at hcs
      have hw : ∀ k ∈ DataW.weights Try.prog 76 (D i), k ≤ 140737488351232 := by
        intro k hk
        refine hr k (hW k ?_)
        have hd : d = .slice ((List.range len).map D) ((List.range (m - len)).map fun j => D (len + j)) := congrArg Prod.fst hx
        rw [hd]
        simp only [DataW.weights, hu]
        exact List.mem_cons_of_mem _ (List.mem_append_left _ (weightsAll_mem (List.mem_map.2 ⟨i, List.mem_range.2 hi, rfl⟩) k hk))
      obtain ⟨v0, u0, e0, hh0, r0⟩ := hcs.cons
      obtain ⟨nm, rfl, w0⟩ := hh0.string Try.underlying9
      obtain ⟨k, nn, x, t, y, us, e, ok, hn⟩ := val_cells hw (ts := []) r0
      rw [hn.nil, List.append_nil] at e
      subst e; subst e0
      refine ⟨⟨nm, ⟨k, nn, x, t, y⟩⟩, ⟨?_, ?_, ?_, ?_, ?_, ?_⟩, hw _ w0, ok⟩
      · exact hcell 0 (by decide)
      · exact hcell 1 (by decide)
      · exact hcell 2 (by decide)
      · exact hcell 3 (by decide)
      · exact hcell 4 (by decide)
      · exact hcell 5 (by decide)
    obtain ⟨F, hF⟩ := choose_lt each
    refine ⟨some a, cap, (List.range len).map F, by simp, by simpa using hl, hm, fun i hi => ⟨a, rfl, ?_⟩, fun x hx => ?_, fun e => by cases e⟩
    · have hi' : i < len := by simpa using hi
      have : ((List.range len).map F)[i] = F i := by simp
      rw [this]
      exact (hF i hi').1
    · obtain ⟨i, hi, rfl⟩ := List.mem_map.1 hx
      exact (hF i (List.mem_range.1 hi)).2
theorem event_leaves : leaves Try.prog 3 31 = [9, 29] := by kernel_rfl
theorem event_packed : packed Try.prog 3 31 = true := by kernel_rfl
theorem event_cells {W : List Nat} (hr : ∀ k ∈ W, k ≤ 140737488351232) {vs : List Value} (h : Cells enc Try.prog w base spare held W [9, 29] vs) :
    ∃ (sc : List UInt8) (a0 : Option Addr) (cap : Nat) (l : List Val.A), vs = [.string ⟨sc.toArray⟩, .slice a0 l.length cap] ∧ sc.length ≤ 140737488351232 ∧ l.length ≤ cap ∧ cap ≤ maxLen ∧ Val.Attrs w a0 l ∧ (∀ x ∈ l, AOk x) ∧ (a0 = none → l = [] ∧ cap = 0) := by
  obtain ⟨v0, u0, rfl, h0, r0⟩ := h.cons
  obtain ⟨v1, u1, rfl, h1, r1⟩ := r0.cons
  obtain ⟨sc, rfl, w0⟩ := h0.string Try.underlying9
  obtain ⟨a0, cap, l, rfl, q, m, s, k, n⟩ := leaf_attrs hr h1
  exact ⟨sc, a0, cap, l, by rw [r1.nil], hr _ w0, q, m, s, k, n⟩
set_option maxRecDepth 100000 in
theorem open_event {r : Reach} {b0 : Nat} {v : Value} {d : DataW H} {p : List MemPlace} (hv : Value.okWide Try.prog w r b0 31 v) (h : DataW.Trod enc Try.prog w base spare held 31 v d p)
    (hr : ∀ k ∈ DataW.weights Try.prog 31 d, k ≤ 140737488351232) :
    ∃ (sc : List UInt8) (a0 : Option Addr) (cap : Nat) (l : List Val.A), v = .agg #[.string ⟨sc.toArray⟩, .slice a0 l.length cap] ∧ sc.length ≤ 140737488351232 ∧ l.length ≤ cap ∧ cap ≤ maxLen ∧ Val.Attrs w a0 l ∧ (∀ x ∈ l, AOk x) ∧ (a0 = none → l = [] ∧ cap = 0) := by
  obtain ⟨cs, rfl, hc⟩ := arg_cells 3 Try.underlying31 event_packed hv h
  rw [event_leaves] at hc
  obtain ⟨sc, a0, cap, l, e, rest⟩ := event_cells hr hc
  exact ⟨sc, a0, cap, l, by rw [← e], rest⟩
end
end Go.Proofs.Ytpbdgbejcdncgaa.Open
end

section
/- THE FRAME OF EVERY LAW OF THIS SEAT: a law that returns true and leaves all that was there as it was meets its given post. -/
namespace Go.Proofs.Ytpbdgbejcdncgaa.Frame
open Go.ChangeShapes Go.WideShapes Go.ChangeAt Go.RowKit

theorem own : ownKnob Try.prog.godebug = none := by kernel_rfl
theorem laidOut : laidOutB Try.prog = true := by kernel_rfl

section
variable {H : Type} {enc : TypeId × Value → H} {P : Program}
/-- the types of the parameters can be read -/
def rowed (P : Program) (ts : List TypeId) : Bool := ts.all fun t => P.readableRec t && decide (t < P.types.size)

theorem trodAll_below (hl : laidOutB P = true) {W W' : World} (hb : Below W.heap.size W W') :
    ∀ {ts : List TypeId} {vs : List Value} {ds : List (DataW H)} {ps : List MemPlace}, rowed P ts = true →
      DataW.TrodAll enc P W 0 (fun _ => true) true ts vs ds ps → DataW.TrodAll enc P W' 0 (fun b => decide (b < W.heap.size)) true ts vs ds ps
  | [], [], [], _, _, h => h
  | [], [], _ :: _, _, _, h => h.elim
  | [], _ :: _, _, _, _, h => by cases ‹List (DataW H)› <;> exact h.elim
  | _ :: _, [], _, _, _, h => h.elim
  | _ :: _, _ :: _, [], _, _, h => h.elim
  | t :: ts, v :: vs, d :: ds, ps, hv, h => by
    have hlt := h.lt
    obtain ⟨p, q, h1, h2, e⟩ := h
    simp only [rowed, List.all_cons, Bool.and_eq_true, decide_eq_true_eq] at hv
    exact ⟨p, q, Below.trod hl hv.1.1 hv.1.2 h1 hb (fun x hx => hlt x (by rw [e]; simp [hx])), trodAll_below hl hb (by simpa [rowed] using hv.2) h2, e⟩

theorem law_post {f : Func} {s : ChangeSpec} {W W' : World} {args : Array Value} {ds gs : List (DataW H)} {before : List MemPlace} {tb : TypeId}
    (hl : laidOutB P = true) (hp : rowed P f.params.toList = true) (hv : varsRowed P s.vars = true)
    (hr : f.resultTypes = #[tb]) (hu : P.underlying tb = some .bool)
    (hs : (s.fn H (ds ++ gs)).results = [.lit (.bool true)]) (ha : (s.fn H (ds ++ gs)).args = ds) (hg : (s.fn H (ds ++ gs)).vars = gs)
    (hW : DataW.Whole enc P f.params.toList s.vars false W args.toList ds gs before) (hb : Below W.heap.size W W') :
    s.post enc P f false true false false W args (.bool true) W' := by
  have hW' := hW
  obtain ⟨p, q, hA, hV, rfl, hfz, hnd⟩ := hW
  refine ⟨ds, gs, p ++ q, [], p, q, hW', ?_, ?_, ?_, hb.frame _, fun h => by cases h⟩
  · rw [hr, hs]
    exact trodAll_mk1 (shut_bool hu true)
  · rw [ha]; exact trodAll_below hl hb hp hA
  · rw [hg]; exact hb.trodVars hl hv hV
end
end Go.Proofs.Ytpbdgbejcdncgaa.Frame
end
