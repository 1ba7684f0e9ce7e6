/- MERGED BY A PROGRAM OF MINE (mgx.py) out of my own texts, in their order: OpenR, EvL, PolLight, PolLoop, PolTwo, PolApart. -/
import Derived.Test.YtfkedobofamkiaaGreatDoorMgPolicyFull4

section
/- A SLICE OF RULES AS AN ARGUMENT. -/
namespace Go.Proofs.YtfkedobofamkiaaGreatDoor.Open
open Go.ChangeShapes Go.WideShapes Go.ChangeAt Go.RowKit Go.Deep
/-- what is known of a rule that came in -/
structure RGood (w : World) (r : Pol.R) (cs : List Val.C) : Prop where
  hc : Val.Conds w r.c0 cs
  hn : r.cn = cs.length
  hl : cs.length ≤ maxLen
  ok : ∀ c ∈ cs, COk c
  nil : r.c0 = none → r.cn = 0 ∧ r.cc = 0
  who : r.k.who.length ≤ 140737488351232
  nm : r.nm.length ≤ 140737488351232
  sc : r.sc.length ≤ 140737488351232
section
variable {H : Type} {enc : TypeId × Value → H} {w : World} {base : Nat} {spare : Nat → Bool} {held : Bool}
theorem rule_leaves : leaves Tryz.prog 3 33 = [3, 3, 9, 3, 9, 29, 9, 3] := by kernel_rfl
theorem rule_packed : packed Tryz.prog 3 33 = true := by kernel_rfl
set_option maxRecDepth 100000 in
theorem open_rules {r : Reach} {b0 : Nat} {v : Value} {d : DataW H} {p : List MemPlace} (hv : Value.okWide Tryz.prog w r b0 23 v) (h : DataW.Trod enc Tryz.prog w base spare held 23 v d p)
    (hr : ∀ k ∈ DataW.weights Tryz.prog 23 d, k ≤ 140737488351232) : ∃ (a0 : Option Addr) (cap : Nat) (l : List Pol.R), v = .slice a0 l.length cap ∧ l.length ≤ cap ∧ cap ≤ maxLen ∧ Pol.Rules w a0 l ∧ (∀ x ∈ l, ∃ cs, RGood w x cs) ∧ (a0 = none → l = [] ∧ cap = 0) := by
  have hu : Tryz.prog.underlying 23 = some (.slice 33) := Tryz.underlying23
  have hce : Tryz.prog.cellsOf 33 = 8 := by kernel_rfl
  obtain ⟨a0, ln, cp, rfl⟩ := okWide_slice hu hv
  obtain ⟨fuel, hf⟩ := h
  rcases open_slice hu hf with ⟨h0, _⟩ | ⟨a, len, cap, m, n, D, Pl, h0, hb, hl, hm, hmm, hx, hel⟩
  · have he : (a0 = none ∧ ln = 0 ∧ cp = 0) := by simpa [Value.cells] using h0
    obtain ⟨rfl, rfl, rfl⟩ := he
    exact ⟨none, 0, [], rfl, Nat.le_refl _, Nat.zero_le _, fun i h => absurd h (Nat.not_lt_zero _), fun x hx => (nomatch hx), fun _ => ⟨rfl, rfl⟩⟩
  · have he : (a0 = some a ∧ ln = len ∧ cp = cap) := by simpa [Value.cells] using h0
    obtain ⟨rfl, rfl, rfl⟩ := he
    have hlm : ln ≤ m := by rw [hmm]; split <;> omega
    have each : ∀ i, i < ln → ∃ x : Pol.R, Pol.RAt w (a.add (i * 8)) x ∧ ∃ cs, RGood w x cs := by
      intro i hi
      obtain ⟨cs', h1, h2⟩ := hel i (by omega)
      rw [hce] at h1
      obtain ⟨_, hlen, hcell⟩ := World.cells?_some h1
      have hcs := cells_of 3 rule_packed h2 (by rw [hlen, hce])
      rw [rule_leaves] at hcs
      have hw : ∀ k ∈ DataW.weights Tryz.prog 33 (D i), k ≤ 140737488351232 := by
        intro k hk
        refine hr k ?_
        have hd : d = .slice ((List.range ln).map D) ((List.range (m - ln)).map fun j => D (ln + j)) := congrArg Prod.fst hx
        rw [hd]
        simp only [DataW.weights, hu]
        exact List.mem_cons_of_mem _ (List.mem_append_left _ (weightsAll_mem (List.mem_map.2 ⟨i, List.mem_range.2 hi, rfl⟩) k hk))
      obtain ⟨v0, u0, e0, g0, r0⟩ := hcs.cons
      obtain ⟨v1, u1, e1, g1, r1⟩ := r0.cons
      obtain ⟨v2, u2, e2, g2, r2⟩ := r1.cons
      obtain ⟨v3, u3, e3, g3, r3⟩ := r2.cons
      obtain ⟨v4, u4, e4, g4, r4⟩ := r3.cons
      obtain ⟨v5, u5, e5, g5, r5⟩ := r4.cons
      obtain ⟨v6, u6, e6, g6, r6⟩ := r5.cons
      obtain ⟨v7, u7, e7, g7, r7⟩ := r6.cons
      obtain ⟨kd, rfl, _⟩ := g0.int Tryz.underlying3
      obtain ⟨tn, rfl, _⟩ := g1.int Tryz.underlying3
      obtain ⟨who, rfl, w2⟩ := g2.string Tryz.underlying9
      obtain ⟨br, rfl, _⟩ := g3.int Tryz.underlying3
      obtain ⟨sc, rfl, w4⟩ := g4.string Tryz.underlying9
      obtain ⟨c0, cc, cl, rfl, q5, m5, s5, k5, n5⟩ := leaf_conds hw g5
      obtain ⟨nm, rfl, w6⟩ := g6.string Tryz.underlying9
      obtain ⟨pl, rfl, _⟩ := g7.int Tryz.underlying3
      subst e7; subst e6; subst e5; subst e4; subst e3; subst e2; subst e1; subst e0
      refine ⟨⟨⟨kd, tn, who, pl⟩, br, sc, c0, cl.length, cc, nm⟩, ⟨?_, ?_, ?_, ?_, ?_, ?_, ?_, ?_⟩, cl, s5, rfl, Nat.le_trans q5 m5, k5, fun e => ?_, hw _ w2, hw _ w6, hw _ w4⟩
      · exact hcell 0 (by decide)
      · exact hcell 1 (by decide)
      · exact hcell 2 (by decide)
      · exact hcell 3 (by decide)
      · exact hcell 4 (by decide)
      · exact hcell 5 (by decide)
      · exact hcell 6 (by decide)
      · exact hcell 7 (by decide)
      · obtain ⟨rfl, rfl⟩ := n5 e
        exact ⟨rfl, rfl⟩
    obtain ⟨F, hF⟩ := choose_lt each
    refine ⟨some a, cp, (List.range ln).map F, by simp, by simpa using hl, hm, fun i hi => ⟨a, rfl, ?_⟩, fun x hx => ?_, fun e => by cases e⟩
    · have hi' : i < ln := by simpa using hi
      have : ((List.range ln).map F)[i] = F i := by simp
      rw [this]
      exact (hF i hi').1
    · obtain ⟨i, hi, rfl⟩ := List.mem_map.1 hx
      exact (hF i (List.mem_range.1 hi)).2
end
end Go.Proofs.YtfkedobofamkiaaGreatDoor.Open
end

section
/- THE WALKS OF Light, few and Event of chapter 07's laws. -/
namespace Go.Proofs.YtfkedobofamkiaaGreatDoor.Val
open Go.RowKit Flt
attribute [local go_sem] run_store_flt
set_option maxHeartbeats 2000000 in
theorem light07_any (sf : List UInt8) (a0 : Option Addr) (cap : Nat) (l : List C) (w : World) (hl : Conds w a0 l) (hlm : l.length ≤ maxLen) :
    Calls Tryz.prog 17 #[ev sf a0 l.length cap] w fun e w' => (∃ b : Bool, e = .returned (.bool b) ∧ (b = true → l.length ≤ 20)) ∧ Below w.heap.size w w' := by
  have HL := Lib.hid hl
  unfold maxLen at hlm
  clear hl
  go_enter Tryz.func17, Tryz.ntmps17
  go_wp2_with fail
  have hx1 := box2_new w sf a0 l.length cap 31
  have hbw := balloc w (.cells #[.string ⟨sf.toArray⟩, .slice a0 l.length cap] 31)
  have HX1 := Lib.hid hx1; have HBW := Lib.hid hbw
  clear hx1 hbw
  generalize w.alloc _ = W0 at *
  go_loopw [3, 12] (fun vn vi wr => ∃ (k : Nat) (z : Int), k ≤ l.length ∧ vn = .int .i64 z ∧ vi = .int .i64 k ∧ Below W0.heap.size W0 wr) (fun _ vi _ => l.length - (intOf vi).toNat)
  case atStart => exact ⟨0, _, Nat.zero_le _, rfl, rfl, Below.refl _ _⟩
  case round =>
    obtain ⟨k, z, hk, rfl, rfl, hbr⟩ := hrel
    have hbz := btrans HBW.out hbr
    have hy1 := HX1.out.below hbr
    have hs1 := hy1.lt
    obtain ⟨f0, f1⟩ := hy1
    have HBZ := Lib.hid hbz; have HBR := Lib.hid hbr
    clear hbz hbr
    by_cases hlt : k < l.length
    · have i1 : (k : Int) < (l.length : Int) := by omega
      have i0 : (0 : Int) ≤ (k : Int) := by omega
      obtain ⟨a, rfl, v0, v1, v2, v3, v4, v5, v6⟩ := (HL.out.below HBZ.out) k hlt
      go_wp2_with fail
      exact ⟨⟨k + 1, _, by omega, rfl, by go_num, btrans HBR.out (balloc _ _)⟩, by simp [intOf]; go_num⟩
    · obtain rfl : k = l.length := by omega
      cases hd : decide (z ≤ 2000)
      · go_wp2_with fail
        go_ret
        exact ⟨⟨_, rfl, fun h => by cases h⟩, HBZ.out⟩
      · go_wp2_with fail
        go_ret
        exact ⟨⟨_, rfl, fun h => by simp at h; omega⟩, HBZ.out⟩
theorem newB_small {l : List A} (h : ∀ x ∈ l, Open.AOk x) : ∀ a ∈ newB l, a.name.length ≤ 140737488351232 ∧ a.val.text.length ≤ 140737488351232 := fun a ha => by
  obtain ⟨x, hx, hn, hv⟩ := mem_newB ha
  have hk := h x hx
  refine ⟨by rw [← hn]; exact hk.1, ?_⟩
  have ht : x.val.text.length ≤ 140737488351232 := hk.2.2.2.2
  rw [hv]
  unfold canonV
  split
  · simp
  split
  · simp
  split
  · exact ht
  split
  · simp
  · simp
theorem one_attrs2 (w : World) (g : Nat) (hg : g = w.heap.size) (a : A) (e : TypeId) : Attrs (w.alloc (.cells #[.string ⟨a.name.toArray⟩, .int .i64 a.val.kind, .int .i64 a.val.int, .float .f64 a.val.num, .string ⟨a.val.text.toArray⟩, .bool a.val.yes] e)) (some ⟨g, 0, none⟩) [a] := by
  subst hg; exact liesA (new_attr w a e)
end Go.Proofs.YtfkedobofamkiaaGreatDoor.Val
end

section
/- THE WALK OF Light of chapter 10's laws. -/
namespace Go.Proofs.YtfkedobofamkiaaGreatDoor.Pol
open Go.RowKit Flt Go.Proofs.YtfkedobofamkiaaGreatDoor.Val
attribute [local go_sem] run_store_flt
/-- a rule that came in -/
structure RIn (w : World) (r : R) : Prop where
  hc : ∃ cs, Conds w r.c0 cs ∧ r.cn = cs.length ∧ cs.length ≤ maxLen
  hw : r.k.who.length ≤ 140737488351232
  hnm : r.nm.length ≤ 140737488351232
def RLt (r : R) : Prop := r.k.who.length + r.nm.length ≤ 200 ∧ r.cn ≤ 20
/-- what Light's answer tells -/
def LSays (l : List R) (e : Ending) : Prop := ∃ b : Bool, e = .returned (.bool b) ∧ (b = true → l.length ≤ 80 ∧ ∀ r ∈ l, RLt r)
theorem ls_no {l : List R} {e : Ending} (h : e = .returned (.bool false)) : LSays l e := ⟨false, h, fun h => by cases h⟩
theorem ls_yes {l : List R} {e : Ending} (b : Bool) (h : e = .returned (.bool b)) (h2 : b = true → l.length ≤ 80) (h3 : ∀ r ∈ l, RLt r) : LSays l e := ⟨b, h, fun h => ⟨h2 h, h3⟩⟩
set_option maxRecDepth 20000 in
set_option maxHeartbeats 4000000 in
theorem light10_any (a0 : Option Addr) (cap : Nat) (l : List R) (w : World) (hl : Rules w a0 l) (hlm : l.length ≤ maxLen) (hin : ∀ r ∈ l, RIn w r) :
    Calls Tryz.prog 9 #[.slice a0 l.length cap] w fun e w' => LSays l e ∧ Below w.heap.size w w' := by
  have HL := Lib.hid hl; have HIN := Lib.hid hin
  unfold maxLen at hlm
  clear hl hin
  go_enter Tryz.func9, Tryz.ntmps9
  go_wp2_with fail
  go_loopw [7] (fun vi wr => ∃ k : Nat, k ≤ l.length ∧ vi = .int .i64 k ∧ Hid (∀ r ∈ l.take k, RLt r) ∧ Below w.heap.size w wr) (fun vi _ => l.length - (intOf vi).toNat)
  case atStart => exact ⟨0, Nat.zero_le _, rfl, Lib.hid (by simp), Below.refl _ _⟩
  case round =>
    obtain ⟨k, hk, rfl, HP, hbr⟩ := hrel
    have HBR := Lib.hid hbr; clear hbr
    by_cases hlt : k < l.length
    · have i1 : (k : Int) < (l.length : Int) := by omega
      have i0 : (0 : Int) ≤ (k : Int) := by omega
      obtain ⟨a, rfl, v0, v1, v2, v3, v4, v5, v6, v7⟩ := (HL.out.below HBR.out) k hlt
      obtain ⟨⟨cs, hcs, hcn, hcl⟩, hw, hnm⟩ := HIN.out _ (List.getElem_mem hlt)
      have hmem : ∀ r ∈ l.take (k + 1), r ∈ l.take k ∨ r = l[k] := fun r hr => by
        rw [List.take_add_one, List.getElem?_eq_getElem hlt] at hr
        rcases List.mem_append.1 hr with h | h
        · exact .inl h
        · exact .inr (by simpa using h)
      generalize l[k] = r at *
      obtain ⟨⟨kd, tn, who, pl⟩, br, sc, c0, cn, cc, nm⟩ := r
      dsimp only at *
      subst hcn
      have hlg (W : World) (h : Below w.heap.size w W) := light07_any sc c0 cc cs W (hcs.below h) hcl
      have HLG := Lib.hid hlg; have HMEM := Lib.hid hmem
      clear hlg hmem hcs hcl
      by_cases h2 : who.length + nm.length ≤ 200
      · have i2 : ¬ (200 : Int) < (who.length : Int) + (nm.length : Int) := by omega
        go_wp2_with (first | (go_at_call 17; refine (HLG.out _ (btrans HBR.out (balloc _ _))).mono ?_; rintro e w5 ⟨⟨B, rfl, hB⟩, hb5⟩) | fail)
        · go_ret
          exact ⟨ls_no rfl, btrans (btrans HBR.out (balloc _ _)) hb5⟩
        · refine ⟨⟨k + 1, by omega, by go_num, Lib.hid fun r hr => ?_, btrans (btrans HBR.out (balloc _ _)) hb5⟩, by simp [intOf]; try go_num⟩
          rcases HMEM.out r hr with h | rfl
          · exact HP.out r h
          · exact ⟨h2, hB (by rename_i hq; first | simpa using hq | (cases B <;> simp_all))⟩
      · have i2 : (200 : Int) < (who.length : Int) + (nm.length : Int) := by omega
        go_wp2_with fail
        go_ret
        exact ⟨ls_no rfl, btrans HBR.out (balloc _ _)⟩
    · have i1 : ¬ (k : Int) < (l.length : Int) := by omega
      obtain rfl : k = l.length := by omega
      go_wp2_with fail
      go_ret
      have hP := HP.out
      rw [List.take_length] at hP
      exact ⟨ls_yes _ rfl (fun h => by have := of_decide_eq_true h; omega) hP, HBR.out⟩
end Go.Proofs.YtfkedobofamkiaaGreatDoor.Pol
end

section
/- RULES THAT CAME IN, and what adding them makes of a log. -/
namespace Go.Proofs.YtfkedobofamkiaaGreatDoor.Pol
open Go.RowKit Flt Go.Proofs.YtfkedobofamkiaaGreatDoor.Val
theorem rin_good {w : World} {r : R} (h : ∃ cs, Open.RGood w r cs) : RIn w r := by
  obtain ⟨cs, h⟩ := h
  exact ⟨⟨cs, h.hc, h.hn, h.hl⟩, h.who, h.nm⟩
theorem on_good {w : World} {r : R} {cs : List C} (h : Open.RGood w r cs) (hl : RLt r) : ROn w r cs := by
  have hn : cs.length ≤ 20 := by rw [← h.hn]; exact hl.2
  refine ⟨⟨h.hc, h.hn, by omega, h.sc, h.who, h.nm, fun c hc => ⟨(h.ok c hc).1, (h.ok c hc).2.2.2.2.2⟩⟩, h.nil, fun hf => ?_⟩
  have := fright_small hf h.ok (fun x hx => (h.ok x hx).2.2.2.2.1)
  exact ⟨by omega, fun c hc => (this.2.2.2 c hc)⟩
/-- a log whose box stands first behind w -/
structure LSt (w : World) (m : List R) (W : World) : Prop where
  lg : ∃ v, LogO W w.heap.size (w.heap.size + 1) v m
  len : m.length ≤ 40
  bel : Below w.heap.size w W
  sz : w.heap.size + 1 ≤ W.heap.size
theorem LSt.below {w W W2 : World} {m : List R} (h : LSt w m W) (hb : Below W.heap.size W W2) : LSt w m W2 := by
  obtain ⟨v, h1⟩ := h.lg
  exact ⟨⟨v, h1.below hb⟩, h.len, btrans h.bel hb, Nat.le_trans h.sz hb.size⟩
theorem LSt.no {w W : World} {m : List R} {r : R} {cs : List C} (h : LSt w m W) (hr : ROn W r cs) (hne : checkE (ks m) (aclB r cs) r.k ≠ 0) :
    Calls Tryz.prog 7 #[.pointer (some ⟨w.heap.size, 0, none⟩), rv r] W fun e w' => e = .returned (.int .i64 (checkE (ks m) (aclB r cs) r.k)) ∧ LSt w m w' := by
  obtain ⟨v, h1⟩ := h.lg
  refine (h1.no (Nat.le_trans h.len (by decide)) hr hne).mono ?_
  rintro e w' ⟨rfl, hb⟩
  exact ⟨rfl, h.below hb⟩
theorem check_room {L : List K} {ok : Bool} {k : K} (h : checkE L ok k = 0) : L.length ≠ 40 := by
  intro e
  unfold checkE at h
  rw [if_pos e] at h
  cases ok <;> simp at h
theorem LSt.yes {w W : World} {m : List R} {r : R} {cs : List C} (h : LSt w m W) (hr : ROn W r cs) (hw : Words W) (hT : Tab.Tabs W) (h0 : checkE (ks m) (aclB r cs) r.k = 0) :
    Calls Tryz.prog 7 #[.pointer (some ⟨w.heap.size, 0, none⟩), rv r] W fun e w' => e = .returned (.int .i64 0) ∧ ∃ r', ks (m ++ [r']) = ks m ++ [r.k] ∧ LSt w (m ++ [r']) w' := by
  obtain ⟨v, h1⟩ := h.lg
  have h40 := check_room h0
  rw [ks_len] at h40
  refine (h1.yes (Nat.lt_succ_self _) h.sz (Nat.le_trans h.len (by decide)) hr hw hT h0).mono ?_
  rintro e w' ⟨rfl, v', r', hks, hlo, hke, _⟩
  refine ⟨rfl, r', hks, ⟨v', hlo⟩, by rw [List.length_append]; have := h.len; simp; omega, ?_, Nat.le_trans h.sz hke.size⟩
  exact h.bel.trans (hke.below (by have := h.sz; omega) (Nat.le_refl _) (fun q hq => by have := (h1.own.lt q hq).1; omega))
/-- an Add, however it ends -/
theorem LSt.any {w W : World} {m : List R} {r : R} {cs : List C} (h : LSt w m W) (hr : ROn W r cs) (hw : Words W) (hT : Tab.Tabs W) :
    Calls Tryz.prog 7 #[.pointer (some ⟨w.heap.size, 0, none⟩), rv r] W fun e w' => (∃ E : Int, e = .returned (.int .i64 E)) ∧ ∃ m', LSt w m' w' := by
  by_cases h0 : checkE (ks m) (aclB r cs) r.k = 0
  · refine (h.yes hr hw hT h0).mono ?_
    rintro e w' ⟨rfl, r', _, h2⟩
    exact ⟨⟨0, rfl⟩, _, h2⟩
  · refine (h.no hr h0).mono ?_
    rintro e w' ⟨rfl, h2⟩
    exact ⟨⟨_, rfl⟩, m, h2⟩
end Go.Proofs.YtfkedobofamkiaaGreatDoor.Pol
end

section
/- TWO LOGS SIDE BY SIDE: what is added to one leaves the other alone. -/
namespace Go.Proofs.YtfkedobofamkiaaGreatDoor.Pol
open Go.RowKit Flt Go.Proofs.YtfkedobofamkiaaGreatDoor.Val
theorem LogO.kept {w w' : World} {b b2 base : Nat} {row : Option Nat} {v : Value} {l : List R} (h : LogO w b2 base v l) (hk : Kept w b row w') (hne : b2 ≠ b) (hbb : b < base) (hr : ∀ k, row = some k → base ≤ k) (hb2 : b2 < base) (hv : ∀ k, v.ownBlock = some k → some k ≠ row) : LogO w' b2 base v l := by
  have hz : b2 < w.heap.size := World.block_lt_of_cell? _ _ h.cb
  have e2 : w'.heap[b2]? = w.heap[b2]? := hk.block b2 hz hne (fun e => by have := hr b2 e.symm; omega)
  refine ⟨(World.cell?_of_block (w := w) (a := ⟨b2, 0, none⟩) e2).trans h.cb, (World.frozen?_of_block (w := w) (a := ⟨b2, 0, none⟩) e2).trans h.fz, h.own.1, ?_⟩
  rcases h.own.2 with hn | ⟨g2, cap, cur, rfl, hg2, hgg, rest⟩
  · exact .inl hn
  · refine .inr ⟨g2, cap, cur, rfl, hg2, ?_, rest⟩
    have hlt := (h.own.lt g2 (by simp [Value.ownBlock])).2
    rw [hk.block g2 hlt (by omega) (hv g2 (by simp [Value.ownBlock]))]
    exact hgg
/-- two logs whose boxes stand behind w -/
structure TSt (w : World) (A O : List R) (W : World) : Prop where
  lg : ∃ v u, LogO W w.heap.size (w.heap.size + 2) v A ∧ LogO W (w.heap.size + 1) (w.heap.size + 2) u O ∧ (∀ k, u.ownBlock = some k → some k ≠ v.ownBlock)
  tw : Twin (ks A) (ks O)
  bel : Below w.heap.size w W
  sz : w.heap.size + 2 ≤ W.heap.size
theorem TSt.below {w W W2 : World} {A O : List R} (h : TSt w A O W) (hb : Below W.heap.size W W2) : TSt w A O W2 := by
  obtain ⟨v, u, h1, h2, h3⟩ := h.lg
  exact ⟨⟨v, u, h1.below hb, h2.below hb, h3⟩, h.tw, btrans h.bel hb, Nat.le_trans h.sz hb.size⟩
theorem TSt.lenA {w W : World} {A O : List R} (h : TSt w A O W) : A.length ≤ 40 ∧ O.length ≤ 40 := by
  have h1 := h.tw.room
  have h2 := h.tw.le.1
  rw [ks_len] at h1
  rw [ks_len, ks_len] at h2
  exact ⟨h1, by omega⟩
/-- the first log refuses: nothing turns -/
theorem TSt.no {w W : World} {A O : List R} {r : R} {cs : List C} (h : TSt w A O W) (hr : ROn W r cs) (hne : checkE (ks A) (aclB r cs) r.k ≠ 0) :
    Calls Tryz.prog 7 #[.pointer (some ⟨w.heap.size, 0, none⟩), rv r] W fun e w' => e = .returned (.int .i64 (checkE (ks A) (aclB r cs) r.k)) ∧ Below W.heap.size W w' := by
  obtain ⟨v, u, h1, h2, h3⟩ := h.lg
  exact h1.no (Nat.le_trans h.lenA.1 (by decide)) hr hne
/-- the second log refuses what the first one does -/
theorem TSt.no2 {w W : World} {A O : List R} {r : R} {cs : List C} (h : TSt w A O W) (hr : ROn W r cs) (h4 : r.k.kind ≠ 4) (h0 : r.k.tenant = 0) (h6 : checkE (ks A) (aclB r cs) r.k ≠ 6) (hne : checkE (ks A) (aclB r cs) r.k ≠ 0) :
    Calls Tryz.prog 7 #[.pointer (some ⟨w.heap.size + 1, 0, none⟩), rv r] W fun e w' => e = .returned (.int .i64 (checkE (ks A) (aclB r cs) r.k)) ∧ Below W.heap.size W w' := by
  obtain ⟨v, u, h1, h2, h3⟩ := h.lg
  have he := twin_check h.tw (aclB r cs) r.k h4 h0 h6
  have := h2.no (Nat.le_trans h.lenA.2 (by decide)) hr (by rw [he]; exact hne)
  rw [he] at this
  exact this
/-- between the two: the first log has taken a rule -/
structure TMid (w : World) (A O : List R) (k : K) (W : World) : Prop where
  lg : ∃ v u r', LogO W w.heap.size (w.heap.size + 2) v (A ++ [r']) ∧ ks (A ++ [r']) = ks A ++ [k] ∧ LogO W (w.heap.size + 1) (w.heap.size + 2) u O ∧ (∀ k, u.ownBlock = some k → some k ≠ v.ownBlock)
  bel : Below w.heap.size w W
  sz : w.heap.size + 2 ≤ W.heap.size
theorem TMid.below {w W W2 : World} {A O : List R} {k : K} (h : TMid w A O k W) (hb : Below W.heap.size W W2) : TMid w A O k W2 := by
  obtain ⟨v, u, r, h1, h2, h3, h4⟩ := h.lg
  exact ⟨⟨v, u, r, h1.below hb, h2, h3.below hb, h4⟩, btrans h.bel hb, Nat.le_trans h.sz hb.size⟩
theorem TSt.yes {w wr W : World} {A O : List R} {r : R} {cs : List C} (h : TSt w A O wr) (hb : Below wr.heap.size wr W) (hr : ROn W r cs) (hw : Words W) (hT : Tab.Tabs W) (h0 : checkE (ks A) (aclB r cs) r.k = 0) :
    Calls Tryz.prog 7 #[.pointer (some ⟨w.heap.size, 0, none⟩), rv r] W fun e w' => e = .returned (.int .i64 0) ∧ TMid w A O r.k w' ∧ (∀ b o, wr.heap.size ≤ b → b < W.heap.size → w'.cell? ⟨b, o, none⟩ = W.cell? ⟨b, o, none⟩) ∧ (∀ b o, wr.heap.size ≤ b → b < W.heap.size → w'.frozen? ⟨b, o, none⟩ = W.frozen? ⟨b, o, none⟩) ∧ W.heap.size ≤ w'.heap.size := by
  obtain ⟨v, u, g1, g2, h3⟩ := h.lg
  have h1 := g1.below hb
  have h2 := g2.below hb
  have hs : w.heap.size + 2 ≤ W.heap.size := Nat.le_trans h.sz hb.size
  refine (h1.yes (by omega) hs (Nat.le_trans h.lenA.1 (by decide)) hr hw hT h0).mono ?_
  rintro e w' ⟨rfl, v', r', hks, hlo, hke, hob⟩
  have hrow : ∀ k, v.ownBlock = some k → w.heap.size + 2 ≤ k := fun k hk => (h1.own.lt k hk).1
  have hblk : ∀ b, wr.heap.size ≤ b → b < W.heap.size → w'.heap[b]? = W.heap[b]? := fun b h5 h6 => hke.block b h6 (by have := h.sz; omega) (fun e => by have := (g1.own.lt b e.symm).2; omega)
  refine ⟨rfl, ⟨⟨v', u, r', hlo, hks, h2.kept hke (by omega) (by omega) hrow (by omega) h3, fun k hk => ?_⟩, ?_, Nat.le_trans hs hke.size⟩, fun b o h5 h6 => World.cell?_of_block (w := W) (a := ⟨b, o, none⟩) (hblk b h5 h6), fun b o h5 h6 => World.frozen?_of_block (w := W) (a := ⟨b, o, none⟩) (hblk b h5 h6), hke.size⟩
  · rcases hob with e | ⟨q, e, hq⟩
    · rw [e]; exact h3 k hk
    · rw [e]
      intro e2
      have := (h2.own.lt k hk).2
      simp only [Option.some.injEq] at e2
      omega
  · exact (btrans h.bel hb).trans (hke.below (by omega) (Nat.le_refl _) (fun q hq => by have := hrow q hq; omega))
theorem TMid.other {w W : World} {A O : List R} {k : K} (h : TMid w A O k W) (ht : Twin (ks A) (ks O)) {ok : Bool} (h4 : k.kind ≠ 4) (h0 : k.tenant ≠ 0) (hc : checkE (ks A) ok k = 0) : ∃ A', TSt w A' O W := by
  obtain ⟨v, u, r, h1, h2, h3, h5⟩ := h.lg
  have := twin_add ht ok k h4 hc
  rw [if_neg h0] at this
  exact ⟨_, ⟨v, u, h1, h3, h5⟩, by rw [h2]; exact this, h.bel, h.sz⟩
/-- the second log takes what the first one took -/
theorem TMid.yes {w W : World} {A O : List R} {r : R} {cs : List C} (h : TMid w A O r.k W) (ht : Twin (ks A) (ks O)) (hr : ROn W r cs) (hw : Words W) (hT : Tab.Tabs W) (h4 : r.k.kind ≠ 4) (h0 : r.k.tenant = 0) (hc : checkE (ks A) (aclB r cs) r.k = 0) :
    Calls Tryz.prog 7 #[.pointer (some ⟨w.heap.size + 1, 0, none⟩), rv r] W fun e w' => e = .returned (.int .i64 0) ∧ ∃ A' O', TSt w A' O' w' := by
  obtain ⟨v, u, r1, h1, hk1, h2, h3⟩ := h.lg
  have ht2 := twin_add ht _ r.k h4 hc
  rw [if_pos h0] at ht2
  have he := twin_check ht (aclB r cs) r.k h4 h0 (by rw [hc]; decide)
  have hlO : O.length ≤ 40 := by have := ht.le.1; have := ht.room; rw [ks_len] at *; rw [ks_len] at *; omega
  refine (h2.yes (by omega) h.sz (Nat.le_trans hlO (by decide)) hr hw hT (by rw [he]; exact hc)).mono ?_
  rintro e w' ⟨rfl, u', r2, hks, hlo, hke, hob⟩
  have hrow : ∀ k, u.ownBlock = some k → w.heap.size + 2 ≤ k := fun k hk => (h2.own.lt k hk).1
  refine ⟨rfl, _, _, ⟨v, u', h1.kept hke (by omega) (by omega) hrow (by omega) (fun k hk e => h3 k e.symm hk.symm), hlo, fun k hk => ?_⟩, ?_, ?_, Nat.le_trans h.sz hke.size⟩
  · rcases hob with e | ⟨q, e, hq⟩
    · rw [e] at hk; exact h3 k hk
    · rw [e] at hk
      intro e2
      have := (h1.own.lt k e2.symm).2
      simp only [Option.some.injEq] at hk
      omega
  · rw [hk1, hks]; exact ht2
  · exact h.bel.trans (hke.below (by have := h.sz; omega) (by omega) (fun q hq => by have := hrow q hq; omega))
/-- what is counted at the end: all rules of the first tenant are the second log's -/
theorem twin_count {A O : List R} (h : Twin (ks A) (ks O)) : ((atR A A.length A.length).filter (fun r => r.k.tenant == 0)).length = O.length := by
  have h1 : atR A A.length A.length = A := by
    unfold atR
    have := at_all h.none
    rw [ks_len] at this
    rw [this]
    apply List.ext_getElem
    · simp
    · intro i h1 h2
      simp only [List.getElem_map, List.getElem_range]
      exact getElem!_pos A i h2
  rw [h1]
  have := congrArg List.length h.own
  rw [ks_len] at this
  rw [this]
  unfold ks
  rw [List.filter_map, List.length_map]
  rfl
end Go.Proofs.YtfkedobofamkiaaGreatDoor.Pol
end

section
/- THE WALK OF the law PolicyApart. -/
namespace Go.Proofs.YtfkedobofamkiaaGreatDoor.Pol
open Go.RowKit Flt Go.Proofs.YtfkedobofamkiaaGreatDoor.Val
attribute [local go_sem] run_store_flt
/-- how many of the first k rules are the first tenant's -/
def zeros (l : List R) (k : Nat) : Nat := ((l.take k).filter (fun r => r.k.tenant == 0)).length
theorem zeros_succ (l : List R) (k : Nat) (h : k < l.length) : zeros l (k + 1) = zeros l k + (if (l[k].k.tenant == 0) = true then 1 else 0) := by
  unfold zeros
  rw [List.take_add_one, List.getElem?_eq_getElem h, List.filter_append, List.length_append]
  congr 1
  show (List.filter _ [l[k]]).length = _
  rw [List.filter_cons]
  cases (l[k].k.tenant == 0) <;> rfl
theorem zeros_le (l : List R) (k : Nat) : zeros l k ≤ k := Nat.le_trans (List.length_filter_le _ _) (by rw [List.length_take]; omega)
/-- what is read of the two logs behind the loop -/
theorem TSt.reads {w W : World} {A O : List R} (h : TSt w A O W) :
    (∀ W2, Below W.heap.size W W2 → Calls Tryz.prog 8 #[.pointer (some ⟨w.heap.size, 0, none⟩)] W2 fun e w' => e = .returned (.int .i64 A.length) ∧ Below W2.heap.size W2 w') ∧
    (∀ W2, Below W.heap.size W W2 → Calls Tryz.prog 8 #[.pointer (some ⟨w.heap.size + 1, 0, none⟩)] W2 fun e w' => e = .returned (.int .i64 O.length) ∧ Below W2.heap.size W2 w') ∧
    (∀ W2, Below W.heap.size W W2 → Calls Tryz.prog 10 #[.pointer (some ⟨w.heap.size, 0, none⟩), .int .i64 A.length] W2 fun e w' => (∃ c0 cp, e = .returned (.slice c0 (atR A A.length A.length).length cp) ∧ Rules w' c0 (atR A A.length A.length)) ∧ Below W2.heap.size W2 w') := by
  obtain ⟨v, u, h1, h2, h3⟩ := h.lg
  obtain ⟨a1, cap1, rfl, hlog, hcap⟩ := h1.log
  obtain ⟨a2, cap2, rfl, hlog2, hcap2⟩ := h2.log
  have hl := h.lenA
  refine ⟨fun W2 hb => len_any _ a1 cap1 A W2 (hlog.below hb), fun W2 hb => len_any _ a2 cap2 O W2 (hlog2.below hb), fun W2 hb => ?_⟩
  refine (at_any _ a1 cap1 A A.length W2 (hlog.below hb) (by omega) hcap (Nat.le_refl _)).mono ?_
  rintro e w' ⟨c0, cp, rfl, hR, hb⟩
  exact ⟨⟨c0, cp, by rw [atR_len], hR⟩, hb⟩
theorem tst_zero (w : World) {T T2 : TypeId} : TSt w [] [] ((w.alloc (.cells #[.slice none 0 0] T)).alloc (.cells #[.slice none 0 0] T2)) := by
  refine ⟨⟨.slice none 0 0, .slice none 0 0, ⟨?_, ?_, World.ownsRow_nil _ _ _ _⟩, ⟨?_, ?_, World.ownsRow_nil _ _ _ _⟩, fun k hk => by cases hk⟩, twin_nil, balloc2 _ _ _, by simp⟩
  · rw [World.cell?_alloc_lt _ _ _ (by simp)]; exact World.cell?_alloc_at _ _ _ _ rfl
  · simp
  · rw [← show (w.alloc (.cells #[.slice none 0 0] T)).heap.size = w.heap.size + 1 from by simp]
    exact World.cell?_alloc_at _ _ _ _ rfl
  · simp
set_option maxRecDepth 20000 in
set_option maxHeartbeats 4000000 in
theorem apart_any (a0 : Option Addr) (cap : Nat) (l : List R) (w : World) (hl : Rules w a0 l) (hlm : l.length ≤ maxLen) (hg : ∀ r ∈ l, ∃ cs, Open.RGood w r cs) (hw : Words w) (hT : Tab.Tabs w) :
    Calls Tryz.prog 5 #[.slice a0 l.length cap] w fun e w' => e = .returned (.bool true) ∧ Below w.heap.size w w' := by
  have hg2 : ∀ r ∈ l, ∃ cs, ∀ W, Below w.heap.size w W → Open.RGood W r cs := fun r hr => by
    obtain ⟨cs, h⟩ := hg r hr
    exact ⟨cs, fun W hb => ⟨h.hc.below hb, h.hn, h.hl, h.ok, h.nil, h.who, h.nm, h.sc⟩⟩
  have HW := Lib.hid hw; have HT := Lib.hid hT; have HL := Lib.hid hl; have HG := Lib.hid hg2; clear hw hT hl hg hg2
  go_enter Tryz.func5, Tryz.ntmps5
  go_wp2_with (first | (go_at_call 6; refine (fit12_any _ (HW.out.below (by repeat (first | assumption | (with_reducible exact Below.refl _ _) | exact balloc _ _ | exact balloc2 _ _ _ | refine btrans ?_ (by assumption) | refine btrans ?_ (balloc _ _)))) (HT.out.below (by repeat (first | assumption | (with_reducible exact Below.refl _ _) | exact balloc _ _ | exact balloc2 _ _ _ | refine btrans ?_ (by assumption) | refine btrans ?_ (balloc _ _))) (Nat.le_refl _))).mono ?_; rintro e w1 ⟨rfl, hb1⟩) | (go_at_call 9; refine (light10_any a0 cap l _ (HL.out.below hb1) hlm (fun r hr => rin_good (let ⟨cs, h⟩ := HG.out r hr; ⟨cs, h _ hb1⟩))).mono ?_; rintro e w2 ⟨⟨B, rfl, hB⟩, hb2⟩; cases B) | fail)
  · go_ret
    exact ⟨rfl, by repeat (first | assumption | (with_reducible exact Below.refl _ _) | exact balloc _ _ | exact balloc2 _ _ _ | refine btrans ?_ (by assumption) | refine btrans ?_ (balloc _ _))⟩
  · go_ret
    exact ⟨rfl, by repeat (first | assumption | (with_reducible exact Below.refl _ _) | exact balloc _ _ | exact balloc2 _ _ _ | refine btrans ?_ (by assumption) | refine btrans ?_ (balloc _ _))⟩
  · obtain ⟨h80, hlt⟩ := hB trivial
    have hbw := btrans hb1 hb2
    have HBW := Lib.hid hbw; have HLT := Lib.hid hlt
    clear hb1 hb2 hbw hlt hB
    go_loopw [23] (fun vi wr => ∃ k : Nat, k ≤ l.length ∧ vi = .int .i64 k ∧ (∃ A O, TSt w2 A O wr)) (fun vi _ => l.length - (intOf vi).toNat)
    case atStart => exact ⟨0, Nat.zero_le _, rfl, [], [], tst_zero _⟩
    case round =>
      obtain ⟨k, hk, rfl, A, O, hst⟩ := hrel
      have hbz := btrans HBW.out hst.bel
      by_cases hlt : k < l.length
      · have i1 : (k : Int) < (l.length : Int) := by omega
        have i0 : (0 : Int) ≤ (k : Int) := by omega
        obtain ⟨a, rfl, v0, v1, v2, v3, v4, v5, v6, v7⟩ := (HL.out.below hbz) k hlt
        obtain ⟨cs, hcs⟩ := HG.out _ (List.getElem_mem hlt)
        have hrl := HLT.out _ (List.getElem_mem hlt)
        have hon (W : World) (h : Below w.heap.size w W) : ROn W l[k] cs := on_good (hcs W h) hrl
        generalize l[k] = r at *
        clear hcs hrl
        have HON := Lib.hid hon; have HBZ := Lib.hid hbz; have HBL := Lib.hid hst.bel
        clear hon hbz
        cases k4 : (r.k.kind == 4)
        rotate_left
        · obtain ⟨⟨kd, tn, who, pl⟩, br, sc, c0, cn, cc, nm⟩ := r
          go_wp2_with fail
          exact ⟨⟨k + 1, by omega, by go_num, A, O, hst.below (balloc _ _)⟩, by simp [intOf]; go_num⟩
        · have h4 : r.k.kind ≠ 4 := fun e => by rw [e] at k4; cases k4
          by_cases h6 : checkE (ks A) (aclB r cs) r.k = 6
          · have hadd (W : World) (h : Below wr.heap.size wr W) := (hst.below h).no (HON.out W (btrans HBZ.out h)) (by rw [h6]; decide)
            rw [h6] at hadd
            have HADD := Lib.hid hadd; clear hadd hst h6
            obtain ⟨⟨kd, tn, who, pl⟩, br, sc, c0, cn, cc, nm⟩ := r
            go_wp2_with (first | (go_at_call 7; refine (HADD.out _ (balloc _ _)).mono ?_; rintro e w5 ⟨rfl, hb5⟩; obtain ⟨hc5, hf5⟩ := bcell hb5) | fail)
            go_ret
            exact ⟨rfl, btrans HBZ.out (btrans (balloc _ _) hb5)⟩
          · by_cases h0 : checkE (ks A) (aclB r cs) r.k = 0
            · have hadd (W : World) (h : Below wr.heap.size wr W) := hst.yes h (HON.out W (btrans HBZ.out h)) (HW.out.below (btrans HBZ.out h)) (HT.out.below (btrans HBZ.out h) (Nat.le_refl _)) h0
              have HTW := Lib.hid hst.tw
              have HADD := Lib.hid hadd; clear hadd
              cases t0 : (r.k.tenant == 0)
              · have ht : r.k.tenant ≠ 0 := fun e => by rw [e] at t0; cases t0
                have hnx (W : World) (h : TMid w2 A O r.k W) := h.other HTW.out h4 ht h0
                have HNX := Lib.hid hnx; clear hst h0 h6 hnx HON
                obtain ⟨⟨kd, tn, who, pl⟩, br, sc, c0, cn, cc, nm⟩ := r
                go_wp2_with (first | (go_at_call 7; refine (HADD.out _ (balloc _ _)).mono ?_; rintro e w5 ⟨rfl, hmid, hc5, hf5, hs5⟩) | fail)
                obtain ⟨A2, h2⟩ := HNX.out _ hmid
                exact ⟨⟨k + 1, by omega, by go_num, A2, O, h2⟩, by simp [intOf]; go_num⟩
              · have ht : r.k.tenant = 0 := by simpa using t0
                have hnx (W : World) (h : TMid w2 A O r.k W) := h.yes HTW.out (HON.out W (btrans HBW.out h.bel)) (HW.out.below (btrans HBW.out h.bel)) (HT.out.below (btrans HBW.out h.bel) (Nat.le_refl _)) h4 ht h0
                have HNX := Lib.hid hnx; clear hst h0 h6 hnx HON
                obtain ⟨⟨kd, tn, who, pl⟩, br, sc, c0, cn, cc, nm⟩ := r
                dsimp only at ht
                subst ht
                dsimp only [rv, rul] at HADD HNX
                go_wp2_with (first | (go_at_call 7; with_reducible refine (HADD.out _ (balloc _ _)).mono ?_; rintro e w5 ⟨rfl, hmid, hc5, hf5, hs5⟩) | (go_at_call 7; with_reducible refine (HNX.out _ hmid).mono ?_; rintro e w6 ⟨rfl, A2, O2, hst2⟩) | fail)
                exact ⟨⟨k + 1, by omega, by go_num, A2, O2, hst2⟩, by simp [intOf]; go_num⟩
            · have hadd (W : World) (h : Below wr.heap.size wr W) := (hst.below h).no (HON.out W (btrans HBZ.out h)) h0
              have e6 : (checkE (ks A) (aclB r cs) r.k == 6) = false := by simpa using h6
              have n6 : ¬ checkE (ks A) (aclB r cs) r.k = 6 := h6
              cases t0 : (r.k.tenant == 0)
              · generalize checkE (ks A) (aclB r cs) r.k = E at *
                have HADD := Lib.hid hadd; have HST := Lib.hid hst; clear hst h0 h6 HON hadd
                obtain ⟨⟨kd, tn, who, pl⟩, br, sc, c0, cn, cc, nm⟩ := r
                go_wp2_with (first | (go_at_call 7; refine (HADD.out _ (balloc _ _)).mono ?_; rintro e w5 ⟨rfl, hb5⟩; obtain ⟨hc5, hf5⟩ := bcell hb5) | fail)
                exact ⟨⟨k + 1, by omega, by go_num, A, O, HST.out.below (btrans (balloc _ _) hb5)⟩, by simp [intOf]; go_num⟩
              · have ht : r.k.tenant = 0 := by simpa using t0
                have hadd2 (W : World) (h : Below wr.heap.size wr W) := (hst.below h).no2 (HON.out W (btrans HBZ.out h)) h4 ht h6 h0
                generalize checkE (ks A) (aclB r cs) r.k = E at *
                have HADD := Lib.hid hadd; have HADD2 := Lib.hid hadd2; have HST := Lib.hid hst; clear hst h0 h6 HON hadd hadd2
                obtain ⟨⟨kd, tn, who, pl⟩, br, sc, c0, cn, cc, nm⟩ := r
                dsimp only at ht
                subst ht
                dsimp only [rv, rul] at HADD HADD2
                go_wp2_with (first | (go_at_call 7; with_reducible refine (HADD.out _ (balloc _ _)).mono ?_; rintro e w5 ⟨rfl, hb5⟩; obtain ⟨hc5, hf5⟩ := bcell hb5) | (go_at_call 7; with_reducible refine (HADD2.out _ (btrans (balloc _ _) hb5)).mono ?_; rintro e w6 ⟨rfl, hb6⟩) | fail)
                exact ⟨⟨k + 1, by omega, by go_num, A, O, HST.out.below (btrans (btrans (balloc _ _) hb5) hb6)⟩, by simp [intOf]; go_num⟩
      · have i1 : ¬ (k : Int) < (l.length : Int) := by omega
        obtain rfl : k = l.length := by omega
        obtain ⟨hln, hln2, hat⟩ := hst.reads
        have hcnt := twin_count hst.tw
        have hml : (atR A A.length A.length).length ≤ 40 := by
          rw [atR_len]; unfold atP; exact Nat.le_trans (List.length_filter_le _ _) (by simpa using hst.lenA.1)
        generalize atR A A.length A.length = M at *
        have HLN := Lib.hid hln; have HLN2 := Lib.hid hln2; have HAT := Lib.hid hat; have HCNT := Lib.hid hcnt; have HBZ := Lib.hid hbz
        clear hln hln2 hat hcnt hst hbz
        go_wp2_with (first | (go_at_call 8; refine (HLN.out _ (Below.refl _ _)).mono ?_; rintro e w5 ⟨rfl, hb5⟩) | (go_at_call 10; refine (HAT.out _ hb5).mono ?_; rintro e w6 ⟨⟨m0, mp, rfl, hM⟩, hb6⟩) | fail)
        have HB6 := Lib.hid (btrans hb5 hb6); have HM := Lib.hid hM
        clear hb5 hb6 hM
        generalize wr = WE at *
        go_loopw [8, 47] (fun vn vi wr => ∃ j : Nat, j ≤ M.length ∧ vi = .int .i64 j ∧ vn = .int .i64 (zeros M j) ∧ Below w6.heap.size w6 wr) (fun _ vi _ => M.length - (intOf vi).toNat)
        case atStart => exact ⟨0, Nat.zero_le _, rfl, rfl, Below.refl _ _⟩
        case round =>
          obtain ⟨j, hj, rfl, rfl, hbr⟩ := hrel
          by_cases hlt2 : j < M.length
          · have i2 : (j : Int) < (M.length : Int) := by omega
            have i3 : (0 : Int) ≤ (j : Int) := by omega
            have hzs := zeros_succ M j hlt2
            have hzl := zeros_le M j
            obtain ⟨a, rfl, v0, v1, v2, v3, v4, v5, v6, v7⟩ := (HM.out.below hbr) j hlt2
            generalize M[j] = r at *
            obtain ⟨⟨kd, tn, who, pl⟩, br, sc, c0, cn, cc, nm⟩ := r
            dsimp only at hzs
            cases t0 : (tn == 0)
            · rw [t0] at hzs
              have HZ := Lib.hid hzs; clear hzs
              go_wp2_with fail
              exact ⟨⟨j + 1, by omega, by go_num, by rw [HZ.out]; simp, btrans hbr (balloc _ _)⟩, by simp [intOf]; go_num⟩
            · rw [t0] at hzs
              have HZ := Lib.hid hzs; clear hzs
              go_wp2_with fail
              exact ⟨⟨j + 1, by omega, by go_num, by rw [HZ.out]; go_num, btrans hbr (balloc _ _)⟩, by simp [intOf]; go_num⟩
          · have i2 : ¬ (j : Int) < (M.length : Int) := by omega
            obtain rfl : j = M.length := by omega
            have hz : zeros M M.length = O.length := by unfold zeros; rw [List.take_length]; exact HCNT.out
            rw [hz]
            go_wp2_with (first | (go_at_call 8; refine (HLN2.out _ (btrans HB6.out hbr)).mono ?_; rintro e w7 ⟨rfl, hb7⟩) | fail)
            go_ret
            exact ⟨rfl, btrans HBZ.out (btrans (btrans HB6.out hbr) hb7)⟩
end Go.Proofs.YtfkedobofamkiaaGreatDoor.Pol
end
