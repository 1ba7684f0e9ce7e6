/- MERGED BY A PROGRAM OF MINE (mgx.py) out of my own texts, in their order: OpenR, EvL, PolLight, PolLoop, PolRev. -/
import Derived.Test.YtfkedobofamkiaaGreatDoorMgPolicyFull4

section
/- A SLICE OF RULES AS AN ARGUMENT. -/
namespace Go.Proofs.YtfkedobofamkiaaGreatDoor.Open
open Go.ChangeShapes Go.WideShapes Go.ChangeAt Go.RowKit Go.Deep
/-- what is known of a rule that came in -/
structure RGood (w : World) (r : Pol.R) (cs : List Val.C) : Prop where
  hc : Val.Conds w r.c0 cs
  hn : r.cn = cs.length
  hl : cs.length ≤ maxLen
  ok : ∀ c ∈ cs, COk c
  nil : r.c0 = none → r.cn = 0 ∧ r.cc = 0
  who : r.k.who.length ≤ 140737488351232
  nm : r.nm.length ≤ 140737488351232
  sc : r.sc.length ≤ 140737488351232
section
variable {H : Type} {enc : TypeId × Value → H} {w : World} {base : Nat} {spare : Nat → Bool} {held : Bool}
theorem rule_leaves : leaves Tryz.prog 3 33 = [3, 3, 9, 3, 9, 29, 9, 3] := by kernel_rfl
theorem rule_packed : packed Tryz.prog 3 33 = true := by kernel_rfl
set_option maxRecDepth 100000 in
theorem open_rules {r : Reach} {b0 : Nat} {v : Value} {d : DataW H} {p : List MemPlace} (hv : Value.okWide Tryz.prog w r b0 23 v) (h : DataW.Trod enc Tryz.prog w base spare held 23 v d p)
    (hr : ∀ k ∈ DataW.weights Tryz.prog 23 d, k ≤ 140737488351232) : ∃ (a0 : Option Addr) (cap : Nat) (l : List Pol.R), v = .slice a0 l.length cap ∧ l.length ≤ cap ∧ cap ≤ maxLen ∧ Pol.Rules w a0 l ∧ (∀ x ∈ l, ∃ cs, RGood w x cs) ∧ (a0 = none → l = [] ∧ cap = 0) := by
  have hu : Tryz.prog.underlying 23 = some (.slice 33) := Tryz.underlying23
  have hce : Tryz.prog.cellsOf 33 = 8 := by kernel_rfl
  obtain ⟨a0, ln, cp, rfl⟩ := okWide_slice hu hv
  obtain ⟨fuel, hf⟩ := h
  rcases open_slice hu hf with ⟨h0, _⟩ | ⟨a, len, cap, m, n, D, Pl, h0, hb, hl, hm, hmm, hx, hel⟩
  · have he : (a0 = none ∧ ln = 0 ∧ cp = 0) := by simpa [Value.cells] using h0
    obtain ⟨rfl, rfl, rfl⟩ := he
    exact ⟨none, 0, [], rfl, Nat.le_refl _, Nat.zero_le _, fun i h => absurd h (Nat.not_lt_zero _), fun x hx => (nomatch hx), fun _ => ⟨rfl, rfl⟩⟩
  · have he : (a0 = some a ∧ ln = len ∧ cp = cap) := by simpa [Value.cells] using h0
    obtain ⟨rfl, rfl, rfl⟩ := he
    have hlm : ln ≤ m := by rw [hmm]; split <;> omega
    have each : ∀ i, i < ln → ∃ x : Pol.R, Pol.RAt w (a.add (i * 8)) x ∧ ∃ cs, RGood w x cs := by
      intro i hi
      obtain ⟨cs', h1, h2⟩ := hel i (by omega)
      rw [hce] at h1
      obtain ⟨_, hlen, hcell⟩ := World.cells?_some h1
      have hcs := cells_of 3 rule_packed h2 (by rw [hlen, hce])
      rw [rule_leaves] at hcs
      have hw : ∀ k ∈ DataW.weights Tryz.prog 33 (D i), k ≤ 140737488351232 := by
        intro k hk
        refine hr k ?_
        have hd : d = .slice ((List.range ln).map D) ((List.range (m - ln)).map fun j => D (ln + j)) := congrArg Prod.fst hx
        rw [hd]
        simp only [DataW.weights, hu]
        exact List.mem_cons_of_mem _ (List.mem_append_left _ (weightsAll_mem (List.mem_map.2 ⟨i, List.mem_range.2 hi, rfl⟩) k hk))
      obtain ⟨v0, u0, e0, g0, r0⟩ := hcs.cons
      obtain ⟨v1, u1, e1, g1, r1⟩ := r0.cons
      obtain ⟨v2, u2, e2, g2, r2⟩ := r1.cons
      obtain ⟨v3, u3, e3, g3, r3⟩ := r2.cons
      obtain ⟨v4, u4, e4, g4, r4⟩ := r3.cons
      obtain ⟨v5, u5, e5, g5, r5⟩ := r4.cons
      obtain ⟨v6, u6, e6, g6, r6⟩ := r5.cons
      obtain ⟨v7, u7, e7, g7, r7⟩ := r6.cons
      obtain ⟨kd, rfl, _⟩ := g0.int Tryz.underlying3
      obtain ⟨tn, rfl, _⟩ := g1.int Tryz.underlying3
      obtain ⟨who, rfl, w2⟩ := g2.string Tryz.underlying9
      obtain ⟨br, rfl, _⟩ := g3.int Tryz.underlying3
      obtain ⟨sc, rfl, w4⟩ := g4.string Tryz.underlying9
      obtain ⟨c0, cc, cl, rfl, q5, m5, s5, k5, n5⟩ := leaf_conds hw g5
      obtain ⟨nm, rfl, w6⟩ := g6.string Tryz.underlying9
      obtain ⟨pl, rfl, _⟩ := g7.int Tryz.underlying3
      subst e7; subst e6; subst e5; subst e4; subst e3; subst e2; subst e1; subst e0
      refine ⟨⟨⟨kd, tn, who, pl⟩, br, sc, c0, cl.length, cc, nm⟩, ⟨?_, ?_, ?_, ?_, ?_, ?_, ?_, ?_⟩, cl, s5, rfl, Nat.le_trans q5 m5, k5, fun e => ?_, hw _ w2, hw _ w6, hw _ w4⟩
      · exact hcell 0 (by decide)
      · exact hcell 1 (by decide)
      · exact hcell 2 (by decide)
      · exact hcell 3 (by decide)
      · exact hcell 4 (by decide)
      · exact hcell 5 (by decide)
      · exact hcell 6 (by decide)
      · exact hcell 7 (by decide)
      · obtain ⟨rfl, rfl⟩ := n5 e
        exact ⟨rfl, rfl⟩
    obtain ⟨F, hF⟩ := choose_lt each
    refine ⟨some a, cp, (List.range ln).map F, by simp, by simpa using hl, hm, fun i hi => ⟨a, rfl, ?_⟩, fun x hx => ?_, fun e => by cases e⟩
    · have hi' : i < ln := by simpa using hi
      have : ((List.range ln).map F)[i] = F i := by simp
      rw [this]
      exact (hF i hi').1
    · obtain ⟨i, hi, rfl⟩ := List.mem_map.1 hx
      exact (hF i (List.mem_range.1 hi)).2
end
end Go.Proofs.YtfkedobofamkiaaGreatDoor.Open
end

section
/- THE WALKS OF Light, few and Event of chapter 07's laws. -/
namespace Go.Proofs.YtfkedobofamkiaaGreatDoor.Val
open Go.RowKit Flt
attribute [local go_sem] run_store_flt
set_option maxHeartbeats 2000000 in
theorem light07_any (sf : List UInt8) (a0 : Option Addr) (cap : Nat) (l : List C) (w : World) (hl : Conds w a0 l) (hlm : l.length ≤ maxLen) :
    Calls Tryz.prog 17 #[ev sf a0 l.length cap] w fun e w' => (∃ b : Bool, e = .returned (.bool b) ∧ (b = true → l.length ≤ 20)) ∧ Below w.heap.size w w' := by
  have HL := Lib.hid hl
  unfold maxLen at hlm
  clear hl
  go_enter Tryz.func17, Tryz.ntmps17
  go_wp2_with fail
  have hx1 := box2_new w sf a0 l.length cap 31
  have hbw := balloc w (.cells #[.string ⟨sf.toArray⟩, .slice a0 l.length cap] 31)
  have HX1 := Lib.hid hx1; have HBW := Lib.hid hbw
  clear hx1 hbw
  generalize w.alloc _ = W0 at *
  go_loopw [3, 12] (fun vn vi wr => ∃ (k : Nat) (z : Int), k ≤ l.length ∧ vn = .int .i64 z ∧ vi = .int .i64 k ∧ Below W0.heap.size W0 wr) (fun _ vi _ => l.length - (intOf vi).toNat)
  case atStart => exact ⟨0, _, Nat.zero_le _, rfl, rfl, Below.refl _ _⟩
  case round =>
    obtain ⟨k, z, hk, rfl, rfl, hbr⟩ := hrel
    have hbz := btrans HBW.out hbr
    have hy1 := HX1.out.below hbr
    have hs1 := hy1.lt
    obtain ⟨f0, f1⟩ := hy1
    have HBZ := Lib.hid hbz; have HBR := Lib.hid hbr
    clear hbz hbr
    by_cases hlt : k < l.length
    · have i1 : (k : Int) < (l.length : Int) := by omega
      have i0 : (0 : Int) ≤ (k : Int) := by omega
      obtain ⟨a, rfl, v0, v1, v2, v3, v4, v5, v6⟩ := (HL.out.below HBZ.out) k hlt
      go_wp2_with fail
      exact ⟨⟨k + 1, _, by omega, rfl, by go_num, btrans HBR.out (balloc _ _)⟩, by simp [intOf]; go_num⟩
    · obtain rfl : k = l.length := by omega
      cases hd : decide (z ≤ 2000)
      · go_wp2_with fail
        go_ret
        exact ⟨⟨_, rfl, fun h => by cases h⟩, HBZ.out⟩
      · go_wp2_with fail
        go_ret
        exact ⟨⟨_, rfl, fun h => by simp at h; omega⟩, HBZ.out⟩
theorem newB_small {l : List A} (h : ∀ x ∈ l, Open.AOk x) : ∀ a ∈ newB l, a.name.length ≤ 140737488351232 ∧ a.val.text.length ≤ 140737488351232 := fun a ha => by
  obtain ⟨x, hx, hn, hv⟩ := mem_newB ha
  have hk := h x hx
  refine ⟨by rw [← hn]; exact hk.1, ?_⟩
  have ht : x.val.text.length ≤ 140737488351232 := hk.2.2.2.2
  rw [hv]
  unfold canonV
  split
  · simp
  split
  · simp
  split
  · exact ht
  split
  · simp
  · simp
theorem one_attrs2 (w : World) (g : Nat) (hg : g = w.heap.size) (a : A) (e : TypeId) : Attrs (w.alloc (.cells #[.string ⟨a.name.toArray⟩, .int .i64 a.val.kind, .int .i64 a.val.int, .float .f64 a.val.num, .string ⟨a.val.text.toArray⟩, .bool a.val.yes] e)) (some ⟨g, 0, none⟩) [a] := by
  subst hg; exact liesA (new_attr w a e)
end Go.Proofs.YtfkedobofamkiaaGreatDoor.Val
end

section
/- THE WALK OF Light of chapter 10's laws. -/
namespace Go.Proofs.YtfkedobofamkiaaGreatDoor.Pol
open Go.RowKit Flt Go.Proofs.YtfkedobofamkiaaGreatDoor.Val
attribute [local go_sem] run_store_flt
/-- a rule that came in -/
structure RIn (w : World) (r : R) : Prop where
  hc : ∃ cs, Conds w r.c0 cs ∧ r.cn = cs.length ∧ cs.length ≤ maxLen
  hw : r.k.who.length ≤ 140737488351232
  hnm : r.nm.length ≤ 140737488351232
def RLt (r : R) : Prop := r.k.who.length + r.nm.length ≤ 200 ∧ r.cn ≤ 20
/-- what Light's answer tells -/
def LSays (l : List R) (e : Ending) : Prop := ∃ b : Bool, e = .returned (.bool b) ∧ (b = true → l.length ≤ 80 ∧ ∀ r ∈ l, RLt r)
theorem ls_no {l : List R} {e : Ending} (h : e = .returned (.bool false)) : LSays l e := ⟨false, h, fun h => by cases h⟩
theorem ls_yes {l : List R} {e : Ending} (b : Bool) (h : e = .returned (.bool b)) (h2 : b = true → l.length ≤ 80) (h3 : ∀ r ∈ l, RLt r) : LSays l e := ⟨b, h, fun h => ⟨h2 h, h3⟩⟩
set_option maxRecDepth 20000 in
set_option maxHeartbeats 4000000 in
theorem light10_any (a0 : Option Addr) (cap : Nat) (l : List R) (w : World) (hl : Rules w a0 l) (hlm : l.length ≤ maxLen) (hin : ∀ r ∈ l, RIn w r) :
    Calls Tryz.prog 9 #[.slice a0 l.length cap] w fun e w' => LSays l e ∧ Below w.heap.size w w' := by
  have HL := Lib.hid hl; have HIN := Lib.hid hin
  unfold maxLen at hlm
  clear hl hin
  go_enter Tryz.func9, Tryz.ntmps9
  go_wp2_with fail
  go_loopw [7] (fun vi wr => ∃ k : Nat, k ≤ l.length ∧ vi = .int .i64 k ∧ Hid (∀ r ∈ l.take k, RLt r) ∧ Below w.heap.size w wr) (fun vi _ => l.length - (intOf vi).toNat)
  case atStart => exact ⟨0, Nat.zero_le _, rfl, Lib.hid (by simp), Below.refl _ _⟩
  case round =>
    obtain ⟨k, hk, rfl, HP, hbr⟩ := hrel
    have HBR := Lib.hid hbr; clear hbr
    by_cases hlt : k < l.length
    · have i1 : (k : Int) < (l.length : Int) := by omega
      have i0 : (0 : Int) ≤ (k : Int) := by omega
      obtain ⟨a, rfl, v0, v1, v2, v3, v4, v5, v6, v7⟩ := (HL.out.below HBR.out) k hlt
      obtain ⟨⟨cs, hcs, hcn, hcl⟩, hw, hnm⟩ := HIN.out _ (List.getElem_mem hlt)
      have hmem : ∀ r ∈ l.take (k + 1), r ∈ l.take k ∨ r = l[k] := fun r hr => by
        rw [List.take_add_one, List.getElem?_eq_getElem hlt] at hr
        rcases List.mem_append.1 hr with h | h
        · exact .inl h
        · exact .inr (by simpa using h)
      generalize l[k] = r at *
      obtain ⟨⟨kd, tn, who, pl⟩, br, sc, c0, cn, cc, nm⟩ := r
      dsimp only at *
      subst hcn
      have hlg (W : World) (h : Below w.heap.size w W) := light07_any sc c0 cc cs W (hcs.below h) hcl
      have HLG := Lib.hid hlg; have HMEM := Lib.hid hmem
      clear hlg hmem hcs hcl
      by_cases h2 : who.length + nm.length ≤ 200
      · have i2 : ¬ (200 : Int) < (who.length : Int) + (nm.length : Int) := by omega
        go_wp2_with (first | (go_at_call 17; refine (HLG.out _ (btrans HBR.out (balloc _ _))).mono ?_; rintro e w5 ⟨⟨B, rfl, hB⟩, hb5⟩) | fail)
        · go_ret
          exact ⟨ls_no rfl, btrans (btrans HBR.out (balloc _ _)) hb5⟩
        · refine ⟨⟨k + 1, by omega, by go_num, Lib.hid fun r hr => ?_, btrans (btrans HBR.out (balloc _ _)) hb5⟩, by simp [intOf]; try go_num⟩
          rcases HMEM.out r hr with h | rfl
          · exact HP.out r h
          · exact ⟨h2, hB (by rename_i hq; first | simpa using hq | (cases B <;> simp_all))⟩
      · have i2 : (200 : Int) < (who.length : Int) + (nm.length : Int) := by omega
        go_wp2_with fail
        go_ret
        exact ⟨ls_no rfl, btrans HBR.out (balloc _ _)⟩
    · have i1 : ¬ (k : Int) < (l.length : Int) := by omega
      obtain rfl : k = l.length := by omega
      go_wp2_with fail
      go_ret
      have hP := HP.out
      rw [List.take_length] at hP
      exact ⟨ls_yes _ rfl (fun h => by have := of_decide_eq_true h; omega) hP, HBR.out⟩
end Go.Proofs.YtfkedobofamkiaaGreatDoor.Pol
end

section
/- RULES THAT CAME IN, and what adding them makes of a log. -/
namespace Go.Proofs.YtfkedobofamkiaaGreatDoor.Pol
open Go.RowKit Flt Go.Proofs.YtfkedobofamkiaaGreatDoor.Val
theorem rin_good {w : World} {r : R} (h : ∃ cs, Open.RGood w r cs) : RIn w r := by
  obtain ⟨cs, h⟩ := h
  exact ⟨⟨cs, h.hc, h.hn, h.hl⟩, h.who, h.nm⟩
theorem on_good {w : World} {r : R} {cs : List C} (h : Open.RGood w r cs) (hl : RLt r) : ROn w r cs := by
  have hn : cs.length ≤ 20 := by rw [← h.hn]; exact hl.2
  refine ⟨⟨h.hc, h.hn, by omega, h.sc, h.who, h.nm, fun c hc => ⟨(h.ok c hc).1, (h.ok c hc).2.2.2.2.2⟩⟩, h.nil, fun hf => ?_⟩
  have := fright_small hf h.ok (fun x hx => (h.ok x hx).2.2.2.2.1)
  exact ⟨by omega, fun c hc => (this.2.2.2 c hc)⟩
/-- a log whose box stands first behind w -/
structure LSt (w : World) (m : List R) (W : World) : Prop where
  lg : ∃ v, LogO W w.heap.size (w.heap.size + 1) v m
  len : m.length ≤ 40
  bel : Below w.heap.size w W
  sz : w.heap.size + 1 ≤ W.heap.size
theorem LSt.below {w W W2 : World} {m : List R} (h : LSt w m W) (hb : Below W.heap.size W W2) : LSt w m W2 := by
  obtain ⟨v, h1⟩ := h.lg
  exact ⟨⟨v, h1.below hb⟩, h.len, btrans h.bel hb, Nat.le_trans h.sz hb.size⟩
theorem LSt.no {w W : World} {m : List R} {r : R} {cs : List C} (h : LSt w m W) (hr : ROn W r cs) (hne : checkE (ks m) (aclB r cs) r.k ≠ 0) :
    Calls Tryz.prog 7 #[.pointer (some ⟨w.heap.size, 0, none⟩), rv r] W fun e w' => e = .returned (.int .i64 (checkE (ks m) (aclB r cs) r.k)) ∧ LSt w m w' := by
  obtain ⟨v, h1⟩ := h.lg
  refine (h1.no (Nat.le_trans h.len (by decide)) hr hne).mono ?_
  rintro e w' ⟨rfl, hb⟩
  exact ⟨rfl, h.below hb⟩
theorem check_room {L : List K} {ok : Bool} {k : K} (h : checkE L ok k = 0) : L.length ≠ 40 := by
  intro e
  unfold checkE at h
  rw [if_pos e] at h
  cases ok <;> simp at h
theorem LSt.yes {w W : World} {m : List R} {r : R} {cs : List C} (h : LSt w m W) (hr : ROn W r cs) (hw : Words W) (hT : Tab.Tabs W) (h0 : checkE (ks m) (aclB r cs) r.k = 0) :
    Calls Tryz.prog 7 #[.pointer (some ⟨w.heap.size, 0, none⟩), rv r] W fun e w' => e = .returned (.int .i64 0) ∧ ∃ r', ks (m ++ [r']) = ks m ++ [r.k] ∧ LSt w (m ++ [r']) w' := by
  obtain ⟨v, h1⟩ := h.lg
  have h40 := check_room h0
  rw [ks_len] at h40
  refine (h1.yes (Nat.lt_succ_self _) h.sz (Nat.le_trans h.len (by decide)) hr hw hT h0).mono ?_
  rintro e w' ⟨rfl, v', r', hks, hlo, hke, _⟩
  refine ⟨rfl, r', hks, ⟨v', hlo⟩, by rw [List.length_append]; have := h.len; simp; omega, ?_, Nat.le_trans h.sz hke.size⟩
  exact h.bel.trans (hke.below (by have := h.sz; omega) (Nat.le_refl _) (fun q hq => by have := (h1.own.lt q hq).1; omega))
/-- an Add, however it ends -/
theorem LSt.any {w W : World} {m : List R} {r : R} {cs : List C} (h : LSt w m W) (hr : ROn W r cs) (hw : Words W) (hT : Tab.Tabs W) :
    Calls Tryz.prog 7 #[.pointer (some ⟨w.heap.size, 0, none⟩), rv r] W fun e w' => (∃ E : Int, e = .returned (.int .i64 E)) ∧ ∃ m', LSt w m' w' := by
  by_cases h0 : checkE (ks m) (aclB r cs) r.k = 0
  · refine (h.yes hr hw hT h0).mono ?_
    rintro e w' ⟨rfl, r', _, h2⟩
    exact ⟨⟨0, rfl⟩, _, h2⟩
  · refine (h.no hr h0).mono ?_
    rintro e w' ⟨rfl, h2⟩
    exact ⟨⟨_, rfl⟩, m, h2⟩
end Go.Proofs.YtfkedobofamkiaaGreatDoor.Pol
end

section
/- THE WALK OF the law PolicyRevokes. -/
namespace Go.Proofs.YtfkedobofamkiaaGreatDoor.Pol
open Go.RowKit Flt Go.Proofs.YtfkedobofamkiaaGreatDoor.Val
attribute [local go_sem] run_store_flt
/-- a revocation -/
def rev (q : Nat) : R := ⟨⟨4, 0, [], q⟩, 0, [], none, 0, 0, []⟩
theorem rev_acl (q : Nat) : aclB (rev q) [] = true := by
  show (if (4 : Int) == 4 then decide ((0 : Int) ≤ (q : Int)) else _) = true
  rw [if_pos (by decide)]
  exact decide_eq_true (by omega)
theorem rev_on (w : World) (q : Nat) : ROn w (rev q) [] :=
  ⟨⟨conds_nil _ _, rfl, by show (0 : Nat) ≤ _; omega, by show (0 : Nat) ≤ _; omega, by show (0 : Nat) ≤ _; omega, by show (0 : Nat) ≤ _; omega, fun c hc => by cases hc⟩, fun _ => ⟨rfl, rfl⟩, fun _ => ⟨by decide, fun c hc => by cases hc⟩⟩
/-- what the law reads of a log -/
theorem LSt.reads {w W : World} {m : List R} (h : LSt w m W) :
    (∀ W2, Below W.heap.size W W2 → Calls Tryz.prog 8 #[.pointer (some ⟨w.heap.size, 0, none⟩)] W2 fun e w' => e = .returned (.int .i64 m.length) ∧ Below W2.heap.size W2 w') ∧
    (∀ (v : Nat), v ≤ m.length → ∀ W2, Below W.heap.size W W2 → Calls Tryz.prog 10 #[.pointer (some ⟨w.heap.size, 0, none⟩), .int .i64 v] W2 fun e w' => (∃ c0 cp, e = .returned (.slice c0 (atP (ks m) v v).length cp)) ∧ Below W2.heap.size W2 w') ∧
    (∀ (q : Nat) (hq : q < m.length), ∀ W2, Below W.heap.size W W2 → Calls Tryz.prog 11 #[.pointer (some ⟨w.heap.size, 0, none⟩), .int .i64 q] W2 fun e w' => e = .returned (.tuple #[rv m[q], .bool true]) ∧ Below W2.heap.size W2 w') := by
  obtain ⟨v, hlo⟩ := h.lg
  obtain ⟨a1, cap1, rfl, hlog, hcap⟩ := hlo.log
  have hm := h.len
  refine ⟨fun W2 hb => len_any _ a1 cap1 m W2 (hlog.below hb), fun v hv W2 hb => ?_, fun q hq W2 hb => rule_in _ a1 cap1 m q W2 (hlog.below hb) hq⟩
  refine (at_any _ a1 cap1 m v W2 (hlog.below hb) (by omega) hcap hv).mono ?_
  rintro e w' ⟨c0, cp, rfl, _, hb⟩
  exact ⟨⟨c0, cp, rfl⟩, hb⟩
/-- a revocation that is refused -/
theorem LSt.rev_no {w W : World} {m : List R} {q : Nat} (h : LSt w m W) (hne : checkE (ks m) true (rev q).k ≠ 0) :
    Calls Tryz.prog 7 #[.pointer (some ⟨w.heap.size, 0, none⟩), rv (rev q)] W fun e w' => e = .returned (.int .i64 (checkE (ks m) true (rev q).k)) ∧ Below W.heap.size W w' := by
  obtain ⟨v, h1⟩ := h.lg
  have := h1.no (Nat.le_trans h.len (by decide)) (rev_on W q) (by rw [rev_acl]; exact hne)
  rw [rev_acl] at this
  exact this
/-- what is read behind a revocation -/
structure After (w : World) (m m5 : List R) (q n : Nat) (W : World) : Prop where
  st : LSt w m5 W
  kk : ks m5 = ks m ++ [(rev q).k]
theorem After.reads {w W : World} {m m5 : List R} {q : Nat} {n : Nat} (h : After w m m5 q n W) (hq : q < m.length) (hk : (ks m)[q]!.kind ≠ 4) (hg : goneB (ks m) q = false) :
    (∀ W2, Below W.heap.size W W2 → Calls Tryz.prog 10 #[.pointer (some ⟨w.heap.size, 0, none⟩), .int .i64 m.length] W2 fun e w' => (∃ c0 cp, e = .returned (.slice c0 (atP (ks m) m.length m.length).length cp)) ∧ Below W2.heap.size W2 w') ∧
    (∃ x : Nat, (atP (ks m) m.length m.length).length = x + 1 ∧ ∀ W2, Below W.heap.size W W2 → Calls Tryz.prog 10 #[.pointer (some ⟨w.heap.size, 0, none⟩), .int .i64 ((m.length : Int) + 1)] W2 fun e w' => (∃ c0 cp, e = .returned (.slice c0 x cp)) ∧ Below W2.heap.size W2 w') ∧
    (∃ E : Int, E ≠ 0 ∧ ∀ W2, Below W.heap.size W W2 → Calls Tryz.prog 7 #[.pointer (some ⟨w.heap.size, 0, none⟩), rv (rev q)] W2 fun e w' => e = .returned (.int .i64 E) ∧ Below W2.heap.size W2 w') := by
  have hl5 : m5.length = m.length + 1 := by have := congrArg List.length h.kk; rw [ks_len, List.length_append, ks_len] at this; simpa using this
  obtain ⟨_, hat, _⟩ := h.st.reads
  have h1 : (atP (ks m5) m.length m.length).length = (atP (ks m) m.length m.length).length := by
    rw [h.kk, at_app _ _ _ _ (by rw [ks_len]; exact Nat.le_refl _) (by rw [ks_len]; exact Nat.le_refl _)]
  have h2 : (atP (ks m5) (m.length + 1) (m.length + 1)).length + 1 = (atP (ks m) m.length m.length).length := by
    have := at_revoke (ks m) q (rev q).k rfl rfl (by rw [ks_len]; exact hq) hk hg
    rw [ks_len] at this
    rw [h.kk]; exact this
  refine ⟨fun W2 hb => ?_, ⟨_, h2.symm, fun W2 hb => ?_⟩, ⟨checkE (ks m5) true (rev q).k, ?_, fun W2 hb => (h.st.below hb).rev_no ?_⟩⟩
  · have := hat m.length (by omega) W2 hb
    rw [h1] at this; exact this
  · have := hat (m.length + 1) (by omega) W2 hb
    rw [show ((m.length + 1 : Nat) : Int) = (m.length : Int) + 1 from by push_cast; rfl] at this
    exact this
  · rw [h.kk]; exact revoke_once _ _ _ rfl rfl rfl
  · rw [h.kk]; exact revoke_once _ _ _ rfl rfl rfl
theorem wrap_len {n : Nat} (h : n ≤ 40) : RowKit.wrap64 ((n : Int) + 1) = (n : Int) + 1 := by
  unfold RowKit.wrap64; omega
theorem LSt.rev_yes {w wr W : World} {m : List R} {q : Nat} (h : LSt w m wr) (hb : Below wr.heap.size wr W) (hw : Words W) (hT : Tab.Tabs W) (h0 : checkE (ks m) true (rev q).k = 0) :
    Calls Tryz.prog 7 #[.pointer (some ⟨w.heap.size, 0, none⟩), rv (rev q)] W fun e w' => e = .returned (.int .i64 0) ∧ (∃ m5, After w m m5 q 0 w') ∧ (∀ b o, wr.heap.size ≤ b → b < W.heap.size → w'.cell? ⟨b, o, none⟩ = W.cell? ⟨b, o, none⟩) ∧ (∀ b o, wr.heap.size ≤ b → b < W.heap.size → w'.frozen? ⟨b, o, none⟩ = W.frozen? ⟨b, o, none⟩) ∧ W.heap.size ≤ w'.heap.size := by
  obtain ⟨v, g1⟩ := h.lg
  have h1 := g1.below hb
  have hs : w.heap.size + 1 ≤ W.heap.size := Nat.le_trans h.sz hb.size
  have h40 := check_room h0
  rw [ks_len] at h40
  refine (h1.yes (Nat.lt_succ_self _) hs (Nat.le_trans h.len (by decide)) (rev_on W q) hw hT (by rw [rev_acl]; exact h0)).mono ?_
  rintro e w' ⟨rfl, v', r', hks, hlo, hke, _⟩
  have hrow : ∀ k, v.ownBlock = some k → w.heap.size + 1 ≤ k := fun k hk => (h1.own.lt k hk).1
  have hblk : ∀ b, wr.heap.size ≤ b → b < W.heap.size → w'.heap[b]? = W.heap[b]? := fun b h5 h6 => hke.block b h6 (by have := h.sz; omega) (fun e => by have := (g1.own.lt b e.symm).2; omega)
  refine ⟨rfl, ⟨_, ⟨⟨v', hlo⟩, by rw [List.length_append]; have := h.len; simp; omega, ?_, Nat.le_trans hs hke.size⟩, hks⟩, fun b o h5 h6 => World.cell?_of_block (w := W) (a := ⟨b, o, none⟩) (hblk b h5 h6), fun b o h5 h6 => World.frozen?_of_block (w := W) (a := ⟨b, o, none⟩) (hblk b h5 h6), hke.size⟩
  exact (btrans h.bel hb).trans (hke.below (by omega) (Nat.le_refl _) (fun k hk => by have := hrow k hk; omega))
theorem replay_nil (w : World) (hw : Words w) (hT : Tab.Tabs w) :
    Calls Tryz.prog 12 #[.slice none 0 0] w fun e w' => e = .returned (.tuple #[.pointer (some ⟨w.heap.size, 0, none⟩), .int .i64 0]) ∧ Below w.heap.size w w' := by
  refine (replay_any none 0 [] (fun _ => []) w (fun i hi => absurd hi (Nat.not_lt_zero _)) (by decide) (fun r hr => by cases hr) hw hT).mono ?_
  rintro e w' ⟨⟨n, m, v, rfl, hn, _⟩, hb⟩
  obtain rfl : n = 0 := by simpa using hn
  exact ⟨rfl, hb⟩
set_option maxRecDepth 20000 in
set_option maxHeartbeats 4000000 in
theorem revokes_any (a0 : Option Addr) (cap : Nat) (l : List R) (a : Int) (w : World) (hl : Rules w a0 l) (hlm : l.length ≤ maxLen) (hg : ∀ r ∈ l, ∃ cs, Open.RGood w r cs) (hw : Words w) (hT : Tab.Tabs w) :
    Calls Tryz.prog 4 #[.slice a0 l.length cap, .int .i64 a] w fun e w' => e = .returned (.bool true) ∧ Below w.heap.size w w' := by
  have hg2 : ∀ r ∈ l, ∀ W, Below w.heap.size w W → ∃ cs, Open.RGood W r cs := fun r hr W hb => by
    obtain ⟨cs, h⟩ := hg r hr
    exact ⟨cs, h.hc.below hb, h.hn, h.hl, h.ok, h.nil, h.who, h.nm, h.sc⟩
  have HW := Lib.hid hw; have HT := Lib.hid hT; have HL := Lib.hid hl; have HG := Lib.hid hg2; clear hw hT hl hg hg2
  go_enter Tryz.func4, Tryz.ntmps4
  go_wp2_with (first | (go_at_call 6; refine (fit12_any _ (HW.out.below (by repeat (first | assumption | (with_reducible exact Below.refl _ _) | exact balloc _ _ | exact balloc2 _ _ _ | refine btrans ?_ (by assumption) | refine btrans ?_ (balloc _ _)))) (HT.out.below (by repeat (first | assumption | (with_reducible exact Below.refl _ _) | exact balloc _ _ | exact balloc2 _ _ _ | refine btrans ?_ (by assumption) | refine btrans ?_ (balloc _ _))) (Nat.le_refl _))).mono ?_; rintro e w1 ⟨rfl, hb1⟩) | (go_at_call 9; refine (light10_any a0 cap l _ (HL.out.below hb1) hlm (fun r hr => rin_good (HG.out r hr _ hb1))).mono ?_; rintro e w2 ⟨⟨B, rfl, hB⟩, hb2⟩; cases B) | fail)
  · go_ret
    exact ⟨rfl, by repeat (first | assumption | (with_reducible exact Below.refl _ _) | exact balloc _ _ | exact balloc2 _ _ _ | refine btrans ?_ (by assumption) | refine btrans ?_ (balloc _ _))⟩
  · obtain ⟨h80, hlt⟩ := hB trivial
    have hbw := btrans hb1 hb2
    have HBW := Lib.hid hbw; have HLT := Lib.hid hlt
    clear hb1 hb2 hbw hlt hB
    go_loopw [22] (fun vi wr => ∃ k : Nat, k ≤ l.length ∧ vi = .int .i64 k ∧ (∃ m, LSt w2 m wr)) (fun vi _ => l.length - (intOf vi).toNat)
    case atStart => exact ⟨0, Nat.zero_le _, rfl, [], ⟨.slice none 0 0, World.cell?_alloc_at _ _ _ _ rfl, by simp, World.ownsRow_nil _ _ _ _⟩, by simp, balloc _ _, by simp⟩
    case round =>
      obtain ⟨k, hk, rfl, m, hst⟩ := hrel
      by_cases hlt : k < l.length
      · have i1 : (k : Int) < (l.length : Int) := by omega
        have i0 : (0 : Int) ≤ (k : Int) := by omega
        have hbz := btrans HBW.out hst.bel
        obtain ⟨a, rfl, v0, v1, v2, v3, v4, v5, v6, v7⟩ := (HL.out.below hbz) k hlt
        have hadd (W : World) (h : Below wr.heap.size wr W) : Calls Tryz.prog 7 #[.pointer (some ⟨w2.heap.size, 0, none⟩), rv l[k]] W fun e w' => (∃ E : Int, e = .returned (.int .i64 E)) ∧ ∃ m', LSt w2 m' w' := by
          obtain ⟨cs, hcs⟩ := HG.out _ (List.getElem_mem hlt) W (btrans hbz h)
          exact (hst.below h).any (on_good hcs (HLT.out _ (List.getElem_mem hlt))) (HW.out.below (btrans hbz h)) (HT.out.below (btrans hbz h) (Nat.le_refl _))
        generalize l[k] = r at *
        have HADD := Lib.hid hadd; clear hadd hst hbz
        obtain ⟨⟨kd, tn, who, pl⟩, br, sc, c0, cn, cc, nm⟩ := r
        go_wp2_with (first | (go_at_call 7; refine (HADD.out _ (balloc _ _)).mono ?_; rintro e w5 ⟨⟨E, rfl⟩, m5, hst5⟩) | fail)
        exact ⟨⟨k + 1, by omega, by go_num, _, hst5⟩, by simp [intOf]; go_num⟩
      · have i1 : ¬ (k : Int) < (l.length : Int) := by omega
        obtain rfl : k = l.length := by omega
        obtain ⟨hln, hat, hru⟩ := hst.reads
        have HBZ := Lib.hid (btrans HBW.out hst.bel)
        by_cases hm0 : m.length = 0
        · have i2 : ((m.length : Int) == 0) = true := by rw [hm0]; rfl
          have HLN := Lib.hid hln; clear hln hat hru hst
          go_wp2_with (first | (go_at_call 8; refine (HLN.out _ (by repeat (first | assumption | (with_reducible exact Below.refl _ _) | exact balloc _ _ | exact balloc2 _ _ _ | refine btrans ?_ (by assumption) | refine btrans ?_ (balloc _ _)))).mono ?_; rintro e w5 ⟨rfl, hb5⟩) | fail)
          go_ret
          exact ⟨rfl, btrans HBZ.out hb5⟩
        · have i2 : ((m.length : Int) == 0) = false := by rw [beq_eq_false_iff_ne]; omega
          obtain ⟨A, hA, hAa⟩ := and_lowP a 16 65535 (by decide) (by decide)
          have hA1 : bits .and .i64 a 65535 = (A : Int) := hAa
          obtain ⟨q, hq⟩ : ∃ q, q = A % m.length := ⟨_, rfl⟩
          have hql : q < m.length := by rw [hq]; exact Nat.mod_lt _ (by omega)
          have hqi : Int.tmod (A : Int) (m.length : Int) = (q : Int) := by rw [hq]; rfl
          have i3 : ¬ (m.length : Int) = 0 := by omega
          have i4 : (0 : Int) ≤ (q : Int) := by omega
          have i5 : (q : Int) < (m.length : Int) := by omega
          have i6 : A < 65536 := hA
          have hat0 := hat m.length (Nat.le_refl _)
          have hru0 := hru q hql
          by_cases h0 : checkE (ks m) true (rev q).k = 0
          · have hadd (W : World) (h : Below wr.heap.size wr W) := hst.rev_yes (q := q) h (HW.out.below (btrans HBZ.out h)) (HT.out.below (btrans HBZ.out h) (Nat.le_refl _)) h0
            obtain ⟨_, ho⟩ := check_revoke (by rfl) h0
            obtain ⟨i, hi, hi2, hi3, hi4, hi5⟩ := old_parts ho
            obtain rfl : q = i := by have : (q : Int) = (i : Int) := hi; omega
            have haf (W : World) (m5 : List R) (h : After w2 m m5 q 0 W) := h.reads hql hi3 hi5
            rw [ks_get m q hql] at hi3 hi4
            have hmn := hst.len
            have hx40 : (atP (ks m) m.length m.length).length ≤ 40 := by unfold atP; exact Nat.le_trans (List.length_filter_le _ _) (by simpa using hmn)
            generalize m[q] = r at *
            generalize (atP (ks m) m.length m.length).length = x at *
            have HLN := Lib.hid hln; have HAT := Lib.hid hat0; have HRU := Lib.hid hru0; have HADD := Lib.hid hadd; have HAF := Lib.hid haf
            clear hln hat hat0 hru hru0 hadd hst hq hAa hA i6 h0 haf ho hi hi2 hi5
            obtain ⟨⟨kd, tn, who, pl⟩, br, sc, c0, cn, cc, nm⟩ := r
            dsimp only at hi3 hi4
            have j3 : (kd != 4) = true := by simpa using hi3
            have j4 : (kd != 0) = true := by simpa using hi4
            go_wp2_with (first | (go_at_call 8; refine (HLN.out _ (by repeat (first | assumption | (with_reducible exact Below.refl _ _) | exact balloc _ _ | exact balloc2 _ _ _ | refine btrans ?_ (by assumption) | refine btrans ?_ (balloc _ _)))).mono ?_; rintro e w5 ⟨rfl, hb5⟩) | (go_at_call 10; with_reducible refine (HAT1.out _ hb9).mono ?_; rintro e w10 ⟨⟨c0, cp, rfl⟩, hb10⟩) | (go_at_call 10; with_reducible refine (HAT2.out _ (btrans hb9 hb10)).mono ?_; rintro e w11 ⟨⟨c0, cp, rfl⟩, hb11⟩) | (go_at_call 10; with_reducible refine (HAT.out _ (by repeat (first | assumption | (with_reducible exact Below.refl _ _) | exact balloc _ _ | exact balloc2 _ _ _ | refine btrans ?_ (by assumption) | refine btrans ?_ (balloc _ _)))).mono ?_; rintro e w6 ⟨⟨c0, cp, rfl⟩, hb6⟩) | (go_at_call 11; refine (HRU.out _ (by repeat (first | assumption | (with_reducible exact Below.refl _ _) | exact balloc _ _ | exact balloc2 _ _ _ | refine btrans ?_ (by assumption) | refine btrans ?_ (balloc _ _)))).mono ?_; rintro e w7 ⟨rfl, hb7⟩) | (go_at_call 12; refine (replay_nil _ (HW.out.below (btrans HBW.out HB8.out)) (HT.out.below (btrans HBW.out HB8.out) (Nat.le_refl _))).mono ?_; rintro e w9 ⟨rfl, hb9⟩; obtain ⟨hc9, hf9⟩ := bcell hb9; have k9 := (hc9 _ 0 q2).trans k8; have z9 := (hf9 _ 0 q2).trans z8) | (go_at_call 7; refine (HADD2.out _ (btrans (btrans hb9 hb10) hb11)).mono ?_; rintro e w12 ⟨rfl, hb12⟩) | (go_at_call 7; refine (HADD.out _ (by repeat (first | assumption | (with_reducible exact Below.refl _ _) | exact balloc _ _ | exact balloc2 _ _ _ | refine btrans ?_ (by assumption) | refine btrans ?_ (balloc _ _)))).mono ?_; rintro e w8 ⟨rfl, ⟨m5, haft⟩, hc8, hf8, hs8⟩; have q1 : wr.heap.size ≤ w7.heap.size := (show Below wr.heap.size wr w7 by repeat (first | assumption | (with_reducible exact Below.refl _ _) | exact balloc _ _ | exact balloc2 _ _ _ | refine btrans ?_ (by assumption) | refine btrans ?_ (balloc _ _))).size; have q2 : w7.heap.size < w8.heap.size := Nat.lt_of_lt_of_le (by simp) hs8; have k8 : w8.cell? ⟨w7.heap.size, 0, none⟩ = some (.int .i64 kd) := (hc8 _ _ q1 (by simp)).trans (World.cell?_alloc_at _ _ _ _ rfl); have z8 : w8.frozen? ⟨w7.heap.size, 0, none⟩ = false := (hf8 _ _ q1 (by simp)).trans (by simp); obtain ⟨hat1, ⟨y, hxy, hat2⟩, ⟨E, hE, hadd2⟩⟩ := HAF.out _ _ haft; have HAT1 := Lib.hid hat1; have HAT2 := Lib.hid hat2; have HADD2 := Lib.hid hadd2; have HB8 := Lib.hid haft.st.bel; have jE : (E != 0) = true := (by simpa using hE); have hy40 : y ≤ 39 := (by omega); clear hat1 hat2 hadd2 haft) | fail)
            go_ret
            exact ⟨rfl, btrans (btrans HBW.out HB8.out) (btrans (btrans (btrans hb9 hb10) hb11) hb12)⟩
          · have hadd (W : World) (h : Below wr.heap.size wr W) := (hst.below h).rev_no h0
            have i7 : (checkE (ks m) true (rev q).k != 0) = true := by simpa using h0
            generalize checkE (ks m) true (rev q).k = E at *
            generalize (atP (ks m) m.length m.length).length = x at *
            generalize m[q] = r at *
            have HLN := Lib.hid hln; have HAT := Lib.hid hat0; have HRU := Lib.hid hru0; have HADD := Lib.hid hadd
            clear hln hat hat0 hru hru0 hadd hst hq hAa hA i6 h0
            obtain ⟨⟨kd, tn, who, pl⟩, br, sc, c0, cn, cc, nm⟩ := r
            go_wp2_with (first | (go_at_call 8; refine (HLN.out _ (by repeat (first | assumption | (with_reducible exact Below.refl _ _) | exact balloc _ _ | exact balloc2 _ _ _ | refine btrans ?_ (by assumption) | refine btrans ?_ (balloc _ _)))).mono ?_; rintro e w5 ⟨rfl, hb5⟩) | (go_at_call 10; with_reducible refine (HAT.out _ (by repeat (first | assumption | (with_reducible exact Below.refl _ _) | exact balloc _ _ | exact balloc2 _ _ _ | refine btrans ?_ (by assumption) | refine btrans ?_ (balloc _ _)))).mono ?_; rintro e w6 ⟨⟨c0, cp, rfl⟩, hb6⟩) | (go_at_call 11; refine (HRU.out _ (by repeat (first | assumption | (with_reducible exact Below.refl _ _) | exact balloc _ _ | exact balloc2 _ _ _ | refine btrans ?_ (by assumption) | refine btrans ?_ (balloc _ _)))).mono ?_; rintro e w7 ⟨rfl, hb7⟩) | (go_at_call 7; refine (HADD.out _ (by repeat (first | assumption | (with_reducible exact Below.refl _ _) | exact balloc _ _ | exact balloc2 _ _ _ | refine btrans ?_ (by assumption) | refine btrans ?_ (balloc _ _)))).mono ?_; rintro e w8 ⟨rfl, hb8⟩) | fail)
            go_ret
            have hbz := HBZ.out
            exact ⟨rfl, by repeat (first | assumption | (with_reducible exact Below.refl _ _) | exact balloc _ _ | exact balloc2 _ _ _ | refine btrans ?_ (by assumption) | refine btrans ?_ (balloc _ _))⟩
end Go.Proofs.YtfkedobofamkiaaGreatDoor.Pol
end
