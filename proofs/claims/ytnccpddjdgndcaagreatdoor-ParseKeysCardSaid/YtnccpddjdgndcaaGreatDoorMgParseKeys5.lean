/- MERGED BY A PROGRAM OF MINE (pmg.py) out of my own texts, pruned, in their order: PaKeysL. -/
import Derived.Test.YtnccpddjdgndcaaGreatDoorMgParseKeys4

section
/- THE WALK OF gazettelaw08.ParseKeys. -/
namespace Go.Proofs.YtnccpddjdgndcaaGreatDoor.Pa
open Go.RowKit Flt Go.Proofs.YtnccpddjdgndcaaGreatDoor.Val
attribute [local go_sem] run_store_flt
theorem ck_norm {l : List C} (h : LOk l) (hs : ∀ c ∈ l, CSmall c ∧ 0 ≤ c.op ∧ c.op ≤ 7) : ∀ c ∈ normL l, CK c := fun c hc => by
  have hk := norm_kept h
  obtain ⟨i, hi, rfl⟩ := List.getElem_of_mem hc
  have e : canonC (normL l)[i] = (normL l)[i] := by
    have := congrArg (fun m => m[i]?) hk
    simp only [List.getElem?_map] at this
    rw [List.getElem?_eq_getElem hi] at this
    simpa using this
  obtain ⟨d, hd, e2⟩ := normL_mem l _ hc
  refine ⟨(h.norm _ hc).1, e, ?_⟩
  rw [e2]
  exact (canon_small (hs d hd)).1
theorem pieces_mem (l : List C) (p : List UInt8) (h : p ∈ piecesOf l) : ∃ c ∈ l, Around p c ∧ p.length ≤ (cT c).length + 2 := by
  induction l with
  | nil => cases h
  | cons c r ih =>
    cases r with
    | nil =>
      rw [piecesOf, List.mem_singleton] at h
      subst h
      exact ⟨c, List.mem_cons_self, ⟨[32], [], by simp, by simp, by simp⟩, by simp⟩
    | cons d r =>
      rw [piecesOf] at h
      rcases List.mem_cons.1 h with rfl | h
      · exact ⟨c, List.mem_cons_self, ⟨[32], [32], by simp, by simp, by simp⟩, by simp⟩
      · obtain ⟨x, hx, hh⟩ := ih h
        exact ⟨x, List.mem_cons_of_mem _ hx, hh⟩
/-- A FILTER'S OWN TEXT IS READ BACK -/
theorem print_back (sf : List UInt8) (N : List C) (w : World) (hw : Words w) (hT : Tab.Tabs w) (hE : Unq.ErrS w) (hP : Pf.PfW w) (hck : ∀ c ∈ N, CK c) (hr : fRight sf N = true) (h1000 : sf.length ≤ 1000) :
    Calls Tryz.prog 18 #[.string ⟨(sf ++ 58 :: bodyT N).toArray⟩] w fun e w' => (∃ b0 cp, e = .returned (.tuple #[ev sf b0 N.length cp, .int .i64 0]) ∧ Conds w' b0 N) ∧ Below w.heap.size w w' := by
  have hs := right_scope hr
  have h6 : N.length ≤ 6 := by
    unfold fRight at hr
    simp only [Bool.and_eq_true, decide_eq_true_eq] at hr
    exact hr.2.2
  have hpl : ∀ p ∈ piecesOf N, p.length ≤ 4000 := fun p hp => by
    obtain ⟨c, hc, _, hl⟩ := pieces_mem N p hp
    have := (hck c hc).len
    omega
  have hjl := join_len (piecesOf N) 4000 hpl
  rw [pieces_len] at hjl
  have hbl : (bodyT N).length ≤ 90000 := by rw [body_join]; omega
  refine filter_back sf sf (bodyT N) (piecesOf N) N w hw hT hE hP (pieces_len N) (fun i h => pieces_around N i h) hck (by simpa using scope_trim hs (a := []) (b := []) (by simp) (by simp)) (fun h => scope_no58 hs 58 h rfl) ?_ hpl (by omega) hbl hr
  by_cases h0 : N = []
  · left
    subst h0
    exact ⟨rfl, by decide⟩
  · exact .inr ⟨h0, body_join N⟩
set_option maxRecDepth 20000 in
set_option maxHeartbeats 4000000 in
theorem pkeys_any (sf : List UInt8) (a0 : Option Addr) (cap : Nat) (l : List C) (w : World) (hw : Words w) (hT : Tab.Tabs w) (hE : Unq.ErrS w) (hP : Pf.PfW w) (hz : sf.length ≤ 140737488351232) (hq : l.length ≤ cap) (hm : cap ≤ maxLen) (hcs : Conds w a0 l) (hok : ∀ x ∈ l, Open.COk x) :
    Calls Tryz.prog 8 #[ev sf a0 l.length cap] w fun e w' => e = .returned (.bool true) ∧ Below w.heap.size w w' := by
  have hfit := fun W (hb : Below w.heap.size w W) => fit08_any W (hw.below hb) (hT.below hb (Nat.le_refl _))
  have hli (W : World) (hb : Below w.heap.size w W) := light07_any sf a0 cap l W (hcs.below hb) (Nat.le_trans hq hm)
  have hri (W : World) (hb : Below w.heap.size w W) (h : l.length ≤ 1000000) := fright_any sf a0 cap l W (hcs.below hb) h hz (fun c hc => ⟨(hok c hc).1, (hok c hc).2.2.2.2.2⟩)
  have hsm := fun h : fRight sf l = true => fright_small h hok (fun c hc => (hok c hc).2.2.2.2.1)
  have hk1 := fun (h : fRight sf l = true) W (hb : Below w.heap.size w W) => filkey_any sf a0 cap l W (hcs.below hb) (by have := (hsm h).2.1; omega) (hw.below hb) (hT.below hb (Nat.le_refl _)) (hsm h).2.2.2 (by have := (hsm h).1; omega)
  have hbk := fun (h : fRight sf l = true) W (hb : Below w.heap.size w W) => print_back sf (normL l) W (hw.below hb) (hT.below hb (Nat.le_refl _)) (Unq.err_below hE hb) (hP.below hb (Nat.le_refl _)) (ck_norm (hsm h).2.2.1 (hsm h).2.2.2) (norm_right (hsm h).2.2.1 h) (hsm h).1
  have hns : fRight sf l = true → ∀ c ∈ normL l, CSmall c ∧ 0 ≤ c.op ∧ c.op ≤ 7 := fun h c hc => by
    obtain ⟨d, hd, rfl⟩ := normL_mem l c hc
    exact canon_small ((hsm h).2.2.2 d hd)
  have hk2 := fun (h : fRight sf l = true) b0 cp W (hc : Conds W b0 (normL l)) (hb : Below w.heap.size w W) => filkey_any sf b0 cp (normL l) W hc (by have := (hsm h).2.1; have := normL_len l; omega) (hw.below hb) (hT.below hb (Nat.le_refl _)) (hns h) (by have := (hsm h).1; omega)
  have hp2 := fun (h : fRight sf l = true) b0 cp W (hc : Conds W b0 (normL l)) (hb : Below w.heap.size w W) => fprint_any sf b0 cp (normL l) cT W (hw.below hb) hc (by have := (hsm h).2.1; have := normL_len l; omega) (by have := (hsm h).1; omega) (fun c hc2 => by have := (ck_norm (hsm h).2.2.1 (hsm h).2.2.2 c hc2).len; omega) (fun c hc2 W2 hw2 hb2 => by
      obtain ⟨⟨q1, q2, q3, q4, q5⟩, _⟩ := hns h c hc2
      exact cprint_any c.name c.op c.val.kind c.val.int c.val.num c.val.text c.val.yes W2 hw2 (hT.below (hb.trans (hb2.mono hb.size)) (Nat.le_refl _)) (by omega) (by omega) q3 q4 q5)
  have hkt : fRight sf l = true → keyT sf (normL l) = keyT sf l := fun h => norm_key (hsm h).2.2.1
  have hkp : fprK sf (normL l) cT (normL l).length = keyT sf l := rfl
  rw [hkp] at hp2
  have hk2' := fun (h : fRight sf l = true) b0 cp W (hc : Conds W b0 (normL l)) (hb : Below w.heap.size w W) => by
    have := hk2 h b0 cp W hc hb
    rw [hkt h] at this
    exact this
  rw [← keyT_body] at hbk
  have HFIT := Lib.hid hfit; have HLI := Lib.hid hli; have HRI := Lib.hid hri; have HK1 := Lib.hid hk1; have HBK := Lib.hid hbk; have HK2 := Lib.hid hk2'; have HP2 := Lib.hid hp2
  clear hfit hli hri hsm hk1 hbk hns hk2 hk2' hp2 hkt hkp hw hT hE hP hcs hok hq hm hz
  generalize keyT sf l = K at *
  generalize normL l = N at *
  generalize hFR : fRight sf l = FR at *
  clear hFR
  go_enter Tryz.func8, Tryz.ntmps8
  go_upto_region 3 with (first | (go_at_call 17; (refine (HFIT.out _ (balloc _ _)).mono ?_); rintro e w1 ⟨rfl, hb1⟩) | fail)
  have HBX := Lib.hid ((box2_new w sf a0 l.length cap 35).below hb1)
  have HB1 := Lib.hid (btrans (balloc w (.cells #[.string ⟨sf.toArray⟩, .slice a0 l.length cap] 35)) hb1)
  clear hb1
  obtain ⟨f0, f1⟩ := HBX.out
  go_wp2_with fail
  refine (HLI.out _ HB1.out).mono ?_; rintro e w2 ⟨⟨fb, rfl, hfl⟩, hbn⟩; (replace HBX := Lib.hid (HBX.out.below hbn); replace HB1 := Lib.hid (btrans HB1.out hbn); clear hbn f0 f1; obtain ⟨f0, f1⟩ := HBX.out)
  cases fb
  · go_wp2_with fail
    go_ret
    exact ⟨rfl, HB1.out⟩
  have hl20 := hfl rfl
  clear hfl
  go_wp2_with fail
  refine (HRI.out _ HB1.out (by omega)).mono ?_; rintro e w3 ⟨rfl, hbn⟩; (replace HBX := Lib.hid (HBX.out.below hbn); replace HB1 := Lib.hid (btrans HB1.out hbn); clear hbn f0 f1; obtain ⟨f0, f1⟩ := HBX.out)
  cases FR
  · go_wp2_with fail
    go_ret
    exact ⟨rfl, HB1.out⟩
  go_wp2_with fail
  refine (HK1.out (by trivial) _ HB1.out).mono ?_; rintro e w4 ⟨rfl, hbn⟩; (replace HBX := Lib.hid (HBX.out.below hbn); replace HB1 := Lib.hid (btrans HB1.out hbn); clear hbn f0 f1; obtain ⟨f0, f1⟩ := HBX.out)
  go_upto_region 7 with (first | (go_at_call 18; (refine (HBK.out (by trivial) _ HB1.out).mono ?_); rintro e w5 ⟨⟨b0, cp, rfl, hcs⟩, hb5⟩) | fail)
  have hb6 := balloc w5 (.cells #[.string ⟨sf.toArray⟩, .slice b0 N.length cp] 35)
  have g0 : (w5.alloc (.cells #[.string ⟨sf.toArray⟩, .slice b0 N.length cp] 35)).cell? ⟨w5.heap.size, 0, none⟩ = some (.string ⟨sf.toArray⟩) := World.cell?_alloc_at _ _ _ _ rfl
  have g1 : (w5.alloc (.cells #[.string ⟨sf.toArray⟩, .slice b0 N.length cp] 35)).cell? ⟨w5.heap.size, 1, none⟩ = some (.slice b0 N.length cp) := World.cell?_alloc_at _ _ _ _ rfl
  have hlt2 : w5.heap.size < (w5.alloc (.cells #[.string ⟨sf.toArray⟩, .slice b0 N.length cp] 35)).heap.size := by simp
  have hcs2 := hcs.below hb6
  have HB6 := Lib.hid (btrans (btrans HB1.out hb5) hb6)
  clear hcs hb5 hb6 f0 f1 HBX
  generalize World.alloc w5 _ = W5 at *
  generalize w5.heap.size = pg at *
  have HCS := Lib.hid hcs2
  clear hcs2
  go_wp2_with (first | (go_at_call 26; (refine (HK2.out (by trivial) _ _ _ HCS.out HB6.out).mono ?_); rintro e w6 ⟨rfl, hb7⟩; have g2 := (hb7.cell (p := ⟨pg, 0, none⟩) hlt2).trans g0; have g3 := (hb7.cell (p := ⟨pg, 1, none⟩) hlt2).trans g1) | (go_at_call 20; (refine (HP2.out (by trivial) _ _ _ (HCS.out.below hb7) (btrans HB6.out hb7)).mono ?_); rintro e w7 ⟨rfl, hb8⟩) | fail)
  go_ret
  exact ⟨rfl, btrans (btrans HB6.out hb7) hb8⟩
end Go.Proofs.YtnccpddjdgndcaaGreatDoor.Pa
end
