/- MERGED BY A PROGRAM OF MINE (mg.py) out of my own texts, in their order: PolFn, FilM, PolMem, Wr6, RdFn, Rd, OrdBack, RdV, RdF, RdE. -/
import Derived.Test.YtpbdgbejcdncgaaFilFn
import Derived.Test.YtpbdgbejcdncgaaFil
import Derived.Maps.AppendAt
import Derived.Test.YtpbdgbejcdncgaaWr5
import Derived.WalkLawsBesides
import Derived.WalkSpells
import Derived.Test.YtpbdgbejcdncgaaOrdKey
import Derived.Deep.DeepCutAuto
import Derived.Deep.LoopGhost
import Derived.Deep.AppendLies
import Derived.Deep.RegionHeldLaw
import Derived.Test.YtpbdgbejcdncgaaRightA

section
/- PLAIN LAW OF A POLICY'S LOG: what may come next, what counts by a version. No program in sight. -/
namespace Go.Proofs.Ytpbdgbejcdncgaa.Pol
open Go.Proofs.Ytpbdgbejcdncgaa.Val
/-- what of a rule plays a part in a log -/
structure K where
  kind : Int
  tenant : Int
  who : List UInt8
  pl : Int
instance : Inhabited K := ⟨⟨0, 0, [], 0⟩⟩
def isHome (t : Int) (who : List UInt8) (k : K) : Bool := k.kind == 0 && k.tenant == t && k.who == who
def homeB (L : List K) (t : Int) (who : List UInt8) : Bool := L.any (isHome t who)
def peopleN (L : List K) : Nat := L.countP (fun k => k.kind == 0)
def hitB (i : Int) (k : K) : Bool := k.kind == 4 && k.pl == i
def goneB (L : List K) (i : Int) : Bool := L.any (hitB i)
/-- may what a rule revokes be revoked? -/
def oldB (L : List K) (p : Int) : Bool := decide (0 ≤ p) && decide (p < L.length) && (L[p.toNat]!.kind != 4 && L[p.toNat]!.kind != 0 && !goneB L p)
/-- the error of a rule behind others -/
def checkE (L : List K) (ok : Bool) (k : K) : Int :=
  if !ok then 1 else if L.length = 40 then 6
  else if k.kind == 4 then (if oldB L k.pl then 0 else 3)
  else if k.kind == 0 && homeB L k.tenant k.who then 4
  else if k.kind == 0 && peopleN L == 12 then 6
  else if k.kind != 0 && !homeB L k.tenant k.who then 3 else 0
def countB (L : List K) (v : Nat) (i : Nat) : Bool := L[i]!.kind != 4 && !goneB (L.take v) i
/-- the places of the first k rules that count by a version -/
def atP (L : List K) (v : Nat) (k : Nat) : List Nat := (List.range k).filter (countB L v)
theorem atP_succ (L : List K) (v k : Nat) : atP L v (k + 1) = atP L v k ++ (if countB L v k then [k] else []) := by
  unfold atP
  rw [List.range_succ, List.filter_append]
  congr 1
  cases h : countB L v k <;> simp [h]
theorem goneB_app (L M : List K) (i : Int) : goneB (L ++ M) i = (goneB L i || goneB M i) := by unfold goneB; rw [List.any_append]
theorem getI_app (L M : List K) (i : Nat) (h : i < L.length) : (L ++ M)[i]! = L[i]! := by
  rw [getElem!_pos (L ++ M) i (by rw [List.length_append]; omega), getElem!_pos L i h, List.getElem_append_left h]
/-- WHAT COMES LATER CHANGES NOTHING -/
theorem at_app (L M : List K) (v k : Nat) (hv : v ≤ L.length) (hk : k ≤ L.length) : atP (L ++ M) v k = atP L v k := by
  unfold atP
  refine List.filter_congr fun i hi => ?_
  have hi2 := List.mem_range.1 hi
  unfold countB
  rw [getI_app L M i (by omega), List.take_append_of_le_length hv]
/-- what a revocation takes away -/
theorem at_revoke (L : List K) (p : Nat) (r : K) (hr : r.kind = 4) (hpl : r.pl = (p : Int)) (hp : p < L.length) (hk : L[p]!.kind ≠ 4) (hg : goneB L p = false) :
    (atP (L ++ [r]) (L.length + 1) (L.length + 1)).length + 1 = (atP L L.length L.length).length := by
  have hlast : countB (L ++ [r]) (L.length + 1) L.length = false := by
    unfold countB
    rw [getElem!_pos (L ++ [r]) L.length (by simp)]
    simp [hr]
  rw [atP_succ, hlast]
  simp only [Bool.false_eq_true, if_false, List.append_nil]
  have key : ∀ k, k ≤ L.length → (atP (L ++ [r]) (L.length + 1) k).length + (if p < k then 1 else 0) = (atP L L.length k).length := by
    intro k
    induction k with
    | zero => intro _; simp [atP]
    | succ k ih =>
      intro hk1
      have h1 := ih (by omega)
      have hc : countB (L ++ [r]) (L.length + 1) k = (countB L L.length k && !decide (p = k)) := by
        unfold countB
        rw [getI_app L [r] k (by omega), List.take_of_length_le (by simp), List.take_length, goneB_app]
        have : goneB [r] (k : Int) = decide (p = k) := by
          unfold goneB hitB
          simp only [List.any_cons, List.any_nil, Bool.or_false, hr, hpl]
          rw [Bool.eq_iff_iff]
          simp
          omega
        rw [this]
        cases (L[k]!.kind != 4) <;> cases goneB L (k : Int) <;> cases decide (p = k) <;> rfl
      rw [atP_succ, atP_succ, List.length_append, List.length_append, hc]
      by_cases e : p = k
      · subst e
        have hc2 : countB L L.length p = true := by
          unfold countB
          rw [List.take_length, hg]
          simpa using hk
        simp only [hc2, decide_true, Bool.not_true, Bool.and_false, Bool.false_eq_true, if_false, if_true, List.length_nil, List.length_cons]
        rw [if_pos (show p < p + 1 by omega)]
        rw [if_neg (show ¬ p < p by omega)] at h1
        omega
      · simp only [e, decide_false, Bool.not_false, Bool.and_true]
        by_cases hlt : p < k
        · rw [if_pos hlt] at h1
          rw [if_pos (show p < k + 1 by omega)]
          omega
        · rw [if_neg hlt] at h1
          rw [if_neg (show ¬ p < k + 1 by omega)]
          omega
  have := key L.length (Nat.le_refl _)
  rw [if_pos hp] at this
  exact this
theorem check_revoke {L : List K} {k : K} (hk : k.kind = 4) (h : checkE L true k = 0) : L.length ≠ 40 ∧ oldB L k.pl = true := by
  unfold checkE at h
  simp only [Bool.not_true, Bool.false_eq_true, if_false, hk] at h
  by_cases h40 : L.length = 40
  · rw [if_pos h40] at h; omega
  · rw [if_neg h40] at h
    refine ⟨h40, ?_⟩
    cases ho : oldB L k.pl
    · rw [ho] at h; simp at h
    · rfl
theorem old_parts {L : List K} {p : Int} (h : oldB L p = true) : ∃ i : Nat, p = (i : Int) ∧ i < L.length ∧ L[i]!.kind ≠ 4 ∧ L[i]!.kind ≠ 0 ∧ goneB L i = false := by
  unfold oldB at h
  simp only [Bool.and_eq_true, decide_eq_true_eq, bne_iff_ne, Bool.not_eq_true'] at h
  obtain ⟨⟨h0, h1⟩, ⟨h2, h3⟩, h4⟩ := h
  obtain ⟨i, rfl⟩ := Int.eq_ofNat_of_zero_le h0
  exact ⟨i, rfl, by omega, by simpa using h2, by simpa using h3, h4⟩
/-- what is revoked isn't revoked again -/
theorem revoke_once (L : List K) (k r : K) (hk : k.kind = 4) (hr : r.kind = 4) (hp : r.pl = k.pl) : checkE (L ++ [r]) true k ≠ 0 := by
  intro h
  obtain ⟨_, ho⟩ := check_revoke hk h
  obtain ⟨i, e, _, _, _, hg⟩ := old_parts ho
  rw [goneB_app] at hg
  simp only [Bool.or_eq_false_iff] at hg
  have := hg.2
  unfold goneB hitB at this
  simp [hr, hp, e] at this
/-- two logs: of all tenants, of one -/
structure Twin (A O : List K) : Prop where
  own : O = A.filter (fun k => k.tenant == 0)
  none : ∀ k ∈ A, k.kind ≠ 4
  room : A.length ≤ 40
  people : peopleN A ≤ 12
theorem twin_nil : Twin [] [] := ⟨rfl, (fun _ h => by cases h), (by simp), (by simp [peopleN])⟩
theorem Twin.le {A O : List K} (h : Twin A O) : O.length ≤ A.length ∧ peopleN O ≤ peopleN A := by
  rw [h.own]
  exact ⟨List.length_filter_le _ _, by unfold peopleN; exact List.Sublist.countP_le List.filter_sublist⟩
theorem Twin.home {A O : List K} (h : Twin A O) (who : List UInt8) : homeB O 0 who = homeB A 0 who := by
  rw [h.own]
  unfold homeB
  rw [List.any_filter]
  congr 1
  funext k
  unfold isHome
  cases (k.tenant == 0) <;> simp
/-- RULES OF OTHER TENANTS PLAY NO PART -/
theorem twin_check {A O : List K} (h : Twin A O) (ok : Bool) (k : K) (h4 : k.kind ≠ 4) (h0 : k.tenant = 0) (h6 : checkE A ok k ≠ 6) : checkE O ok k = checkE A ok k := by
  obtain ⟨l1, l2⟩ := h.le
  have hr := h.room
  have hp := h.people
  have e4 : (k.kind == 4) = false := by simpa using h4
  unfold checkE at h6 ⊢
  rw [h0, e4] at h6 ⊢
  rw [h.home]
  cases ok
  · rfl
  · simp only [Bool.not_true, Bool.false_eq_true, if_false] at h6 ⊢
    by_cases h40 : A.length = 40
    · rw [if_pos h40] at h6; omega
    · rw [if_neg h40] at h6 ⊢
      rw [if_neg (by omega)]
      cases hk : (k.kind == 0) <;> cases hh : homeB A 0 k.who
      · rfl
      · rfl
      · rw [hk, hh] at h6
        simp only [Bool.and_false, Bool.false_eq_true, if_false, Bool.true_and] at h6 ⊢
        by_cases h12 : peopleN A = 12
        · exact absurd (by simp [h12]) h6
        · have hO : ¬ peopleN O = 12 := fun e => h12 (by omega)
          rw [if_neg (show ¬ (peopleN A == 12) = true by simpa using h12), if_neg (show ¬ (peopleN O == 12) = true by simpa using hO)]
      · rfl
theorem twin_add {A O : List K} (h : Twin A O) (ok : Bool) (k : K) (h4 : k.kind ≠ 4) (he : checkE A ok k = 0) : Twin (A ++ [k]) (if k.tenant = 0 then O ++ [k] else O) := by
  have e4 : (k.kind == 4) = false := by simpa using h4
  have hr := h.room
  have hp := h.people
  unfold checkE at he
  cases ok
  · simp at he
  simp only [Bool.not_true, Bool.false_eq_true, if_false, e4] at he
  by_cases h40 : A.length = 40
  · rw [if_pos h40] at he; omega
  rw [if_neg h40] at he
  refine ⟨?_, ?_, by rw [List.length_append]; simp; omega, ?_⟩
  · rw [List.filter_append, h.own]
    by_cases h0 : k.tenant = 0
    · rw [if_pos h0]; simp [h0]
    · rw [if_neg h0]; simp [h0]
  · intro x hx
    rcases List.mem_append.1 hx with hx | hx
    · exact h.none x hx
    · rw [List.mem_singleton] at hx; rw [hx]; exact h4
  · unfold peopleN at *
    rw [List.countP_append]
    cases hk : (k.kind == 0)
    · simp [hk]; exact hp
    · rw [hk] at he
      cases hh : homeB A k.tenant k.who
      · rw [hh] at he
        simp only [Bool.true_and, Bool.false_eq_true, if_false, Bool.and_false] at he
        by_cases h12 : List.countP (fun k => k.kind == 0) A = 12
        · rw [if_pos (by simpa using h12)] at he; omega
        · simp [hk]; omega
      · rw [hh] at he; simp at he
theorem gone_none {A : List K} (h : ∀ k ∈ A, k.kind ≠ 4) (i : Int) : goneB A i = false := by
  unfold goneB
  rw [List.any_eq_false]
  intro x hx
  unfold hitB
  have := h x hx
  simp [this]
/-- where nothing is revoked all counts -/
theorem at_all {A : List K} (h : ∀ k ∈ A, k.kind ≠ 4) : atP A A.length A.length = List.range A.length := by
  unfold atP
  rw [List.filter_eq_self]
  intro i hi
  have hi2 := List.mem_range.1 hi
  unfold countB
  rw [List.take_length, gone_none h, getElem!_pos A i hi2]
  have := h A[i] (List.getElem_mem hi2)
  simpa using this
/-- who joins: the first letters -/
def nameP (i : Nat) : List UInt8 := [112, UInt8.ofNat (97 + i)]
def joins (n : Nat) : List K := (List.range n).map (fun i => ⟨0, 0, nameP i, 0⟩)
theorem joins_succ (n : Nat) : joins (n + 1) = joins n ++ [⟨0, 0, nameP n, 0⟩] := by
  unfold joins; rw [List.range_succ, List.map_append]; rfl
theorem joins_len (n : Nat) : (joins n).length = n := by unfold joins; simp
theorem joins_people (n : Nat) : peopleN (joins n) = n := by
  unfold peopleN joins
  rw [List.countP_map]
  have : (List.countP ((fun k => k.kind == 0) ∘ fun i : Nat => (⟨0, 0, nameP i, 0⟩ : K)) (List.range n)) = (List.range n).length := List.countP_eq_length.2 (fun _ _ => rfl)
  rw [this, List.length_range]
theorem nameP_inj : ∀ i, i < 16 → ∀ j, j < 16 → nameP i = nameP j → i = j := by decide
theorem joins_home (n i : Nat) (hn : n ≤ 16) (hi : i < 16) : homeB (joins n) 0 (nameP i) = decide (i < n) := by
  rw [Bool.eq_iff_iff]
  unfold homeB joins
  rw [List.any_map, List.any_eq_true, decide_eq_true_eq]
  constructor
  · rintro ⟨j, hj, h⟩
    have hj2 := List.mem_range.1 hj
    unfold isHome at h
    simp only [Function.comp_apply, Bool.and_eq_true, beq_iff_eq] at h
    have := nameP_inj j (by omega) i hi h.2
    omega
  · intro h
    exact ⟨i, List.mem_range.2 h, by unfold isHome; simp⟩
theorem join_check (n : Nat) (hn : n ≤ 12) (i : Nat) (hi : i < 16) (hni : n ≤ i) : checkE (joins n) true ⟨0, 0, nameP i, 0⟩ = if n = 12 then 6 else 0 := by
  unfold checkE
  rw [joins_len, joins_home n i (by omega) hi, joins_people]
  simp only [Bool.not_true, Bool.false_eq_true, if_false]
  rw [if_neg (by omega)]
  have : decide (i < n) = false := by rw [decide_eq_false_iff_not]; omega
  rw [this]
  by_cases h : n = 12 <;> simp [h]
def pubs (j : Nat) : List K := List.replicate j ⟨1, 0, nameP 0, 0⟩
theorem pubs_succ (j : Nat) : pubs (j + 1) = pubs j ++ [⟨1, 0, nameP 0, 0⟩] := List.replicate_succ'
theorem pub_check (n j : Nat) (h0 : 0 < n) (hn : n ≤ 12) : checkE (joins n ++ pubs j) true ⟨1, 0, nameP 0, 0⟩ = if n + j = 40 then 6 else 0 := by
  unfold checkE
  have hl : (joins n ++ pubs j).length = n + j := by rw [List.length_append, joins_len]; unfold pubs; rw [List.length_replicate]
  have hh : homeB (joins n ++ pubs j) 0 (nameP 0) = true := by
    unfold homeB
    rw [List.any_append, Bool.or_eq_true]
    refine .inl ?_
    have := joins_home n 0 (by omega) (by omega)
    unfold homeB at this
    rw [this]; simpa using h0
  rw [hl, hh]
  simp only [Bool.not_true, Bool.false_eq_true, if_false]
  by_cases h : n + j = 40 <;> simp [h]
end Go.Proofs.Ytpbdgbejcdncgaa.Pol
end

section
/- THE WALKS OF filter.Match, filter.Right, filter.Covers. -/
namespace Go.Proofs.Ytpbdgbejcdncgaa.Val
open Go.RowKit Flt
attribute [local go_sem] run_store_flt
set_option maxHeartbeats 2000000 in
theorem fright_any (sf : List UInt8) (a0 : Option Addr) (cap : Nat) (l : List C) (w : World) (hl : Conds w a0 l) (hlm : l.length ≤ 1000000)
    (hsf : sf.length ≤ 140737488351232) (hok : ∀ c ∈ l, c.name.length ≤ 140737488351232 ∧ c.val.text.length ≤ 140737488351232) :
    Calls Try.prog 12 #[ev sf a0 l.length cap] w fun e w' => e = .returned (.bool (fRight sf l)) ∧ Below w.heap.size w w' := by
  have hrt (W : World) := Sc.right_l sf W hsf
  have hr : fRight sf l = (l.all cRight && (Sc.rightB sf && decide (l.length ≤ 6))) := rfl
  have HL := Lib.hid hl; have HRT := Lib.hid hrt; have HR := Lib.hid hr; have HOK := Lib.hid hok
  clear hl hrt hr hsf hok
  generalize Sc.rightB sf = U at *
  generalize fRight sf l = R at *
  go_enter Try.func12, Try.ntmps12
  go_wp2_with fail
  have hx1 := box2_new w sf a0 l.length cap 26
  have hbw := balloc w (.cells #[.string ⟨sf.toArray⟩, .slice a0 l.length cap] 26)
  have HX1 := Lib.hid hx1; have HBW := Lib.hid hbw
  clear hx1 hbw
  generalize w.alloc _ = W0 at *
  go_loopw [8] (fun vi wr => ∃ k : Nat, k ≤ l.length ∧ vi = .int .i64 k ∧ Hid ((l.take k).all cRight = true) ∧ Below W0.heap.size W0 wr) (fun vi _ => l.length - (intOf vi).toNat)
  case atStart => exact ⟨0, Nat.zero_le _, rfl, Lib.hid rfl, Below.refl _ _⟩
  case round =>
    obtain ⟨k, hk, rfl, HP, hbr⟩ := hrel
    have hbz := btrans HBW.out hbr
    have hy1 := HX1.out.below hbr
    have hs1 := hy1.lt
    obtain ⟨f0, f1⟩ := hy1
    have HBZ := Lib.hid hbz; have HBR := Lib.hid hbr
    clear hbz hbr
    by_cases hlt : k < l.length
    · have i1 : (k : Int) < (l.length : Int) := by omega
      have i0 : (0 : Int) ≤ (k : Int) := by omega
      have hts := all_take_succ' cRight l k hlt
      have hno := all_miss cRight l k hlt
      rw [HP.out, Bool.true_and] at hts
      have hx := HOK.out _ (List.getElem_mem hlt)
      obtain ⟨a, rfl, v0, v1, v2, v3, v4, v5, v6⟩ := (HL.out.below HBZ.out) k hlt
      have hmc (W : World) : Calls Try.prog 34 #[cc l[k]] W fun e w' => e = .returned (.bool (cRight l[k])) ∧ Below W.heap.size W w' := cright_any _ _ _ _ _ _ _ W hx.1 hx.2
      clear hx
      generalize cRight l[k] = M at *
      have HTS := Lib.hid hts; have HNO := Lib.hid hno; have HMC := Lib.hid hmc
      clear hts hno hmc HP
      cases M
      · go_wp2_with (go_at_call 34; refine (HMC.out _).mono ?_; rintro e w5 ⟨rfl, hb5⟩)
        go_ret
        exact ⟨ret_bool (by rw [HR.out, HNO.out (by trivial)]; rfl), btrans (btrans HBZ.out (balloc _ _)) hb5⟩
      · go_wp2_with (go_at_call 34; refine (HMC.out _).mono ?_; rintro e w5 ⟨rfl, hb5⟩)
        exact ⟨⟨k + 1, by omega, by go_num, Lib.hid HTS.out, btrans (btrans HBR.out (balloc _ _)) hb5⟩, by simp [intOf]; go_num⟩
    · obtain rfl : k = l.length := by omega
      have hP := HP.out
      rw [List.take_length] at hP
      have HQ := Lib.hid hP; clear hP
      cases U
      · go_wp2_with (go_at_call 18; refine (HRT.out _).mono ?_; rintro e w5 ⟨rfl, ⟨nd, rfl⟩⟩)
        go_ret
        exact ⟨ret_bool (by rw [HR.out, HQ.out]; rfl), bdrewN HBZ.out _⟩
      · go_wp2_with (go_at_call 18; refine (HRT.out _).mono ?_; rintro e w5 ⟨rfl, ⟨nd, rfl⟩⟩)
        go_ret
        exact ⟨ret_bool (by rw [HR.out, HQ.out, Bool.true_and, Bool.true_and, Bool.eq_iff_iff]; simp; omega), bdrewN HBZ.out _⟩
end Go.Proofs.Ytpbdgbejcdncgaa.Val
end

section
/- RULES IN MEMORY: eight cells each; a log: a box that holds a row of its own. -/
namespace Go.Proofs.Ytpbdgbejcdncgaa.Pol
open Go.RowKit Flt Go.Proofs.Ytpbdgbejcdncgaa.Val
/-- a rule: what plays a part, and the rest -/
structure R where
  k : K
  br : Int
  sc : List UInt8
  c0 : Option Addr
  cn : Nat
  cc : Nat
  nm : List UInt8
instance : Inhabited R := ⟨⟨default, 0, [], none, 0, 0, []⟩⟩
abbrev rul (kd tn : Int) (who : List UInt8) (br : Int) (sc : List UInt8) (c0 : Option Addr) (cn cc : Nat) (nm : List UInt8) (pl : Int) : Value :=
  .agg #[.int .i64 kd, .int .i64 tn, .string ⟨who.toArray⟩, .int .i64 br, .string ⟨sc.toArray⟩, .slice c0 cn cc, .string ⟨nm.toArray⟩, .int .i64 pl]
abbrev rv (r : R) : Value := rul r.k.kind r.k.tenant r.k.who r.br r.sc r.c0 r.cn r.cc r.nm r.k.pl
def cells8 (r : R) : List Value := [.int .i64 r.k.kind, .int .i64 r.k.tenant, .string ⟨r.k.who.toArray⟩, .int .i64 r.br, .string ⟨r.sc.toArray⟩, .slice r.c0 r.cn r.cc, .string ⟨r.nm.toArray⟩, .int .i64 r.k.pl]
def flatR (l : List R) : List Value := l.flatMap cells8
theorem flatR_len (l : List R) : (flatR l).length = l.length * 8 := by
  induction l with
  | nil => rfl
  | cons v l ih => unfold flatR at *; rw [List.flatMap_cons, List.length_append, ih]; simp [cells8]; omega
theorem flatR_at : ∀ (l : List R) (i j : Nat) (hi : i < l.length), j < 8 → (flatR l)[i * 8 + j]? = (cells8 l[i])[j]?
  | v :: l, 0, j, _, hj => by
    unfold flatR; rw [List.flatMap_cons, List.getElem?_append_left (by simp [cells8]; omega)]; simp
  | v :: l, i + 1, j, hi, hj => by
    unfold flatR; rw [List.flatMap_cons, List.getElem?_append_right (by simp [cells8]; omega)]
    have e : (i + 1) * 8 + j - (cells8 v).length = i * 8 + j := by simp [cells8]; omega
    rw [e]
    exact flatR_at l i j (by simpa using hi) hj
theorem flatR_one (l : List R) : ∀ u ∈ flatR l, u.oneCell' = true := by
  intro u hu
  obtain ⟨v, _, hv⟩ := List.mem_flatMap.1 hu
  simp only [cells8, List.mem_cons, List.not_mem_nil, or_false] at hv
  rcases hv with rfl | rfl | rfl | rfl | rfl | rfl | rfl | rfl <;> rfl
theorem flatR_app (l : List R) (a : R) : flatR (l ++ [a]) = flatR l ++ flatR [a] := by simp [flatR]
def RAt (w : World) (p : Addr) (r : R) : Prop :=
  w.cell? p = some (.int .i64 r.k.kind) ∧ w.cell? ⟨p.block, p.off + 1, none⟩ = some (.int .i64 r.k.tenant) ∧ w.cell? ⟨p.block, p.off + 2, none⟩ = some (.string ⟨r.k.who.toArray⟩) ∧ w.cell? ⟨p.block, p.off + 3, none⟩ = some (.int .i64 r.br) ∧ w.cell? ⟨p.block, p.off + 4, none⟩ = some (.string ⟨r.sc.toArray⟩) ∧ w.cell? ⟨p.block, p.off + 5, none⟩ = some (.slice r.c0 r.cn r.cc) ∧ w.cell? ⟨p.block, p.off + 6, none⟩ = some (.string ⟨r.nm.toArray⟩) ∧ w.cell? ⟨p.block, p.off + 7, none⟩ = some (.int .i64 r.k.pl)
theorem RAt.below {w w2 : World} {p : Addr} {r : R} (h : RAt w p r) (hb : Below w.heap.size w w2) : RAt w2 p r := by
  obtain ⟨h0, h1, h2, h3, h4, h5, h6, h7⟩ := h
  have e : ∀ {q : Addr} {v : Value}, w.cell? q = some v → w2.cell? q = some v := fun h => (hb.cell (World.block_lt_of_cell? _ _ h)).trans h
  exact ⟨e h0, e h1, e h2, e h3, e h4, e h5, e h6, e h7⟩
def Rules (w : World) (a0 : Option Addr) (l : List R) : Prop := ∀ i (h : i < l.length), ∃ a, a0 = some a ∧ RAt w (a.add (i * 8)) l[i]
theorem Rules.below {w w2 : World} {a0 : Option Addr} {l : List R} (h : Rules w a0 l) (hb : Below w.heap.size w w2) : Rules w2 a0 l := fun i hi => by
  obtain ⟨a, e, h1⟩ := h i hi
  exact ⟨a, e, h1.below hb⟩
theorem own_rules {w : World} {v : Value} {l : List R} {base : Nat} (h : w.ownsRow base 28 8 v l.length (flatR l)) :
    ∃ b0 cap, v = .slice b0 l.length cap ∧ Rules w b0 l := by
  rcases h.2 with ⟨rfl, h0⟩ | ⟨g, cp, cur, rfl, hb, hg, hh⟩
  · have : l = [] := List.eq_nil_of_length_eq_zero h0
    subst this
    exact ⟨none, 0, rfl, fun i hi => absurd hi (Nat.not_lt_zero _)⟩
  · refine ⟨some ⟨g, 0, none⟩, cp, rfl, fun i hi => ⟨_, rfl, ?_⟩⟩
    have k : ∀ j (hj : j < 8), w.cell? ⟨g, i * 8 + j, none⟩ = (cells8 l[i])[j]? := by
      intro j hj
      have hm := flatR_at l i j hi hj
      have hc : (cells8 l[i])[j]? = some ((cells8 l[i])[j]'(by simpa [cells8] using hj)) := by simp
      rw [hc] at hm ⊢
      have := h.cells rfl (i * 8 + j) _ hm
      have hadd : (⟨g, 0, none⟩ : Addr).add (i * 8 + j) = ⟨g, i * 8 + j, none⟩ := by unfold Addr.add; split <;> simp_all
      rw [← hadd]; exact this
    have hadd : (⟨g, 0, none⟩ : Addr).add (i * 8) = ⟨g, i * 8, none⟩ := by unfold Addr.add; split <;> simp_all
    rw [hadd]
    exact ⟨k 0 (by omega), k 1 (by omega), k 2 (by omega), k 3 (by omega), k 4 (by omega), k 5 (by omega), k 6 (by omega), k 7 (by omega)⟩
/-- a log at a box, as it is read -/
def Log (w : World) (b : Nat) (a0 : Option Addr) (cap : Nat) (l : List R) : Prop := w.cell? ⟨b, 0, none⟩ = some (.slice a0 l.length cap) ∧ Rules w a0 l
theorem Log.below {w w2 : World} {b : Nat} {a0 : Option Addr} {cap : Nat} {l : List R} (h : Log w b a0 cap l) (hb : Below w.heap.size w w2) : Log w2 b a0 cap l :=
  ⟨(hb.cell (World.block_lt_of_cell? _ _ h.1)).trans h.1, h.2.below hb⟩
theorem Log.lt {w : World} {b : Nat} {a0 : Option Addr} {cap : Nat} {l : List R} (h : Log w b a0 cap l) : b < w.heap.size := World.block_lt_of_cell? _ _ h.1
def ks (l : List R) : List K := l.map R.k
theorem ks_len (l : List R) : (ks l).length = l.length := by simp [ks]
theorem ks_take (l : List R) (n : Nat) : ks (l.take n) = (ks l).take n := by simp [ks, List.map_take]
theorem ks_app (l m : List R) : ks (l ++ m) = ks l ++ ks m := by simp [ks]
theorem ks_get (l : List R) (i : Nat) (h : i < l.length) : (ks l)[i]! = l[i].k := by
  rw [getElem!_pos (ks l) i (by rw [ks_len]; exact h)]
  simp [ks]
end Go.Proofs.Ytpbdgbejcdncgaa.Pol
end

section
/- A WRITER OF BYTES: an event, a rule; the bytes of rules, events, messages. -/
namespace Go.Proofs.Ytpbdgbejcdncgaa.Wire
open Go.RowKit Flt Go.Proofs.Ytpbdgbejcdncgaa.Val Go.Lib
attribute [local go_sem] run_store_flt
def encAttr (a : A) : List UInt8 := encText a.name ++ encVal a.val.kind a.val.int a.val.num a.val.text a.val.yes
def encAttrs (l : List A) : List UInt8 := l.flatMap encAttr
def encEvent (sc : List UInt8) (l : List A) : List UInt8 := encText sc ++ [byteOf l.length] ++ encAttrs l
theorem encAttrs_succ (l : List A) (k : Nat) (h : k < l.length) : encAttrs (l.take (k + 1)) = encAttrs (l.take k) ++ encAttr l[k] := by
  unfold encAttrs
  rw [List.take_add_one, List.getElem?_eq_getElem h, List.flatMap_append]
  simp
theorem encAttrs_le (l : List A) (k : Nat) : (encAttrs (l.take k)).length ≤ (encAttrs l).length := by
  have : encAttrs l = encAttrs (l.take k) ++ encAttrs (l.drop k) := by
    unfold encAttrs
    rw [← List.flatMap_append, List.take_append_drop]
  rw [this, List.length_append]; omega
theorem aat_new (w : World) (c : A) (e : TypeId) : AAt (w.alloc (.cells #[.string ⟨c.name.toArray⟩, .int .i64 c.val.kind, .int .i64 c.val.int, .float .f64 c.val.num, .string ⟨c.val.text.toArray⟩, .bool c.val.yes] e)) ⟨w.heap.size, 0, none⟩ c := by
  have hc : ∀ o, (w.alloc (.cells #[.string ⟨c.name.toArray⟩, .int .i64 c.val.kind, .int .i64 c.val.int, .float .f64 c.val.num, .string ⟨c.val.text.toArray⟩, .bool c.val.yes] e)).cell? ⟨w.heap.size, o, none⟩ = #[.string ⟨c.name.toArray⟩, .int .i64 c.val.kind, .int .i64 c.val.int, .float .f64 c.val.num, .string ⟨c.val.text.toArray⟩, .bool c.val.yes][o]? := fun o => World.cell?_alloc_at _ _ _ _ rfl
  exact ⟨hc 0, hc 1, hc 2, hc 3, hc 4, hc 5⟩
set_option maxRecDepth 20000 in
set_option maxHeartbeats 4000000 in
theorem wevent_any (b : Nat) (s sf : List UInt8) (a0 : Option Addr) (cap : Nat) (l : List A) (w w0 : World) (h : Wr w b s) (hcl : Attrs w0 a0 l) (hb0 : Below w0.heap.size w0 w) (hle : w0.heap.size ≤ b) (hnum : ∀ c ∈ l, c.val.num < 18446744073709551616) (hl : s.length + (encEvent sf l).length ≤ 1000000) (hlm : l.length ≤ 1000000) :
    Calls Try.prog 33 #[.pointer (some ⟨b, 0, none⟩), ev sf a0 l.length cap] w fun e w' => e = .returned (.pointer (some ⟨b, 0, none⟩)) ∧ Wr w' b (s ++ encEvent sf l) ∧ Wrote b w w' := by
  have hlen : s.length + sf.length + 2 + (encAttrs l).length ≤ 1000000 := by
    unfold encEvent at hl
    simp only [List.length_append, encText_len, List.length_singleton] at hl
    omega
  clear hl
  have hcn : ∀ W, Wrote b w W → Attrs W a0 l := fun W hb => hcl.below (hb0.trans (hb.below h hle))
  have HWR := Lib.hid h; have HH := Lib.hid h
  have HCN := Lib.hid hcn; have HNUM := Lib.hid hnum
  clear h hcl hb0 hnum hle hcn
  go_enter Try.func33, Try.ntmps33
  go_upto_region 1 with fail
  replace HWR := Lib.hid (HWR.out.below (balloc w (.cells #[.string ⟨sf.toArray⟩, .slice a0 l.length cap] 31)))
  have hfr := HH.out.free_new (balloc w (.cells #[.string ⟨sf.toArray⟩, .slice a0 l.length cap] 31)) (Nat.le_refl _) (by simp)
  have hx0 := box2_new w sf a0 l.length cap 31
  have hwt0 := wrote_below HH.out.lt (balloc w (.cells #[.string ⟨sf.toArray⟩, .slice a0 l.length cap] 31))
  generalize w.alloc _ = W0 at *
  have hsall : ∀ W, Wrote b W0 W → (fun w' => w'.cell? ⟨w.heap.size, 0, none⟩ = some (.string ⟨sf.toArray⟩) ∧ w'.cell? ⟨w.heap.size, 1, none⟩ = some (.slice a0 l.length cap)) W := fun W hb => ⟨(hb.cell hfr 0).trans hx0.1, (hb.cell hfr 1).trans hx0.2⟩
  have HSALL := Lib.hid hsall; have HWT0 := Lib.hid hwt0; have HFR := Lib.hid hfr
  clear hsall hwt0 hfr hx0
  go_cut [15] (fun va wx => Hid (Wr wx b (s ++ encText sf ++ [byteOf l.length])) ∧ Hid (Wrote b W0 wx))
  case first =>
    clear HCN HNUM HH
    refine wp_region_held_drew (S := (fun w' => w'.cell? ⟨w.heap.size, 0, none⟩ = some (.string ⟨sf.toArray⟩) ∧ w'.cell? ⟨w.heap.size, 1, none⟩ = some (.slice a0 l.length cap))) (by kernel_rfl) ?_ (fun hq0 => ?_)
    · exact HSALL.out _ (wrote_drew b W0)
    have HBB : Hid (Wrote b W0 W0.drew) := Lib.hid (wrote_drew b W0)
    replace HWR := Lib.hid (wr_drew HWR.out)
    generalize W0.drew = D0 at *
    (refine wpAnyH_take (i := 0) (oi := ?_) (v := ?_) ?_ (by kernel_rfl) (by kernel_rfl) (by kernel_rfl) ?_ (Or.inl ⟨?_, ?_⟩) (by assumption) ?_; rotate_left 2; (· (simp only [List.getElem?_toArray, List.getElem?_cons_zero]; first | done | rfl)); (· exact (fun _ _ _ h => h)); (· rfl); (· (intro w hSw; (try dsimp only at hSw); go_simp; (try with_reducible rfl))))
    (try simp only [Act.put, List.setIfInBounds_toArray, List.set_cons_zero, List.set_cons_succ])
    (refine wpAnyH_take (i := 1) (oi := ?_) (v := ?_) ?_ (by kernel_rfl) (by kernel_rfl) (by kernel_rfl) ?_ (Or.inl ⟨?_, ?_⟩) (by assumption) ?_; rotate_left 2; (· (simp only [List.getElem?_toArray, List.getElem?_cons_succ, List.getElem?_cons_zero]; first | done | rfl)); (· exact (fun _ _ _ h => h)); (· rfl); (· (intro w hSw; (try dsimp only at hSw); go_simp; (try with_reducible rfl))))
    (try simp only [Act.put, List.setIfInBounds_toArray, List.set_cons_zero, List.set_cons_succ])
    (refine wpAnyH_take (i := 2) (oi := ?_) (v := ?_) ?_ (by kernel_rfl) (by kernel_rfl) (by kernel_rfl) ?_ (Or.inl ⟨?_, ?_⟩) (by assumption) ?_; rotate_left 2; (· (simp only [List.getElem?_toArray, List.getElem?_cons_succ, List.getElem?_cons_zero]; first | done | rfl)); (· exact (fun _ _ _ h => h)); (· rfl); (· (intro w hSw; (try dsimp only at hSw); go_simp; (try with_reducible rfl))))
    (try simp only [Act.put, List.setIfInBounds_toArray, List.set_cons_zero, List.set_cons_succ])
    (refine wpAnyH_take (i := 4) (oi := ?_) (v := ?_) ?_ (by kernel_rfl) (by kernel_rfl) (by kernel_rfl) ?_ (Or.inl ⟨?_, ?_⟩) (by assumption) ?_; rotate_left 2; (· (simp only [List.getElem?_toArray, List.getElem?_cons_succ, List.getElem?_cons_zero]; first | done | rfl)); (· exact (fun _ _ _ h => h)); (· rfl); (· (intro w hSw; (try dsimp only at hSw); go_simp; (try with_reducible rfl))))
    (try simp only [Act.put, List.setIfInBounds_toArray, List.set_cons_zero, List.set_cons_succ])
    (refine wpAnyH_take (i := 5) (oi := ?_) (v := ?_) ?_ (by kernel_rfl) (by kernel_rfl) (by kernel_rfl) ?_ (Or.inl ⟨?_, ?_⟩) (by assumption) ?_; rotate_left 2; (· (simp only [List.getElem?_toArray, List.getElem?_cons_succ, List.getElem?_cons_zero]; first | done | rfl)); (· exact (fun _ _ _ h => h)); (· rfl); (· (intro w hSw; (try dsimp only at hSw); go_simp; (try with_reducible rfl))))
    (try simp only [Act.put, List.setIfInBounds_toArray, List.set_cons_zero, List.set_cons_succ])
    (refine wpAnyH_take (i := 6) (oi := ?_) (v := ?_) ?_ (by kernel_rfl) (by kernel_rfl) (by kernel_rfl) ?_ (Or.inl ⟨?_, ?_⟩) (by assumption) ?_; rotate_left 2; (· (simp only [List.getElem?_toArray, List.getElem?_cons_succ, List.getElem?_cons_zero]; first | done | rfl)); (· exact (fun _ _ _ h => h)); (· rfl); (· (intro w hSw; (try dsimp only at hSw); go_simp; (try with_reducible rfl))))
    (try simp only [Act.put, List.setIfInBounds_toArray, List.set_cons_zero, List.set_cons_succ])
    refine wpAnyH_ready (rs := [3, 7]) (by kernel_rfl) (by simp) ?_
    refine AllReadyH.cons (o := ?_) ?_ (fun K hK => ?_) ?_
    rotate_left 1
    · (simp only [List.getElem?_toArray, List.getElem?_cons_succ, List.getElem?_cons_zero]; first | done | rfl)
    rotate_left 1
    refine AllReadyH.cons (o := ?_) ?_ (fun K hK => ?_) AllReadyH.nil
    rotate_left 1
    · (simp only [List.getElem?_toArray, List.getElem?_cons_succ, List.getElem?_cons_zero]; first | done | rfl)
    rotate_left 1
    · skip
      go_simp
      go_at_call 31
      refine (wtext_any b _ sf _ HWR.out (by omega)).mono ?_
      rintro e D1 ⟨rfl, hwr, hwt⟩
      first | (refine hK.out _ _ ?_ (fun hq1 => ?_)) | (go_wp2_with fail; refine hK.out _ _ ?_ (fun hq1 => ?_))
      · exact HSALL.out _ (HBB.out.trans hwt)
      clear hK K
      (try simp only [Act.put, List.setIfInBounds_toArray, List.set_cons_zero, List.set_cons_succ])
      clear hq0
      replace HBB := Lib.hid (HBB.out.trans hwt)
      replace HWR := Lib.hid hwr
      clear hwr hwt
      refine wpAnyH_ready (rs := [7]) (by kernel_rfl) (by simp) ?_
      refine AllReadyH.cons (o := ?_) ?_ (fun K hK => ?_) AllReadyH.nil
      rotate_left 1
      · (simp only [List.getElem?_toArray, List.getElem?_cons_succ, List.getElem?_cons_zero]; first | done | rfl)
      go_simp
      refine hK.out _ _ ?_ (fun hq2 => ?_)
      · exact HSALL.out _ (HBB.out.trans (wrote_below HWR.out.lt (balloc _ _)))
      clear hK K
      (try simp only [Act.put, List.setIfInBounds_toArray, List.set_cons_zero, List.set_cons_succ])
      clear hq1
      generalize hD : World.alloc D1 _ = D2 at hq2 ⊢
      have hb : Below D1.heap.size D1 D2 := by rw [← hD]; exact balloc _ _
      have Vp := Lib.hid (va_one (l.length : Int) 3 HWR.out); rw [hD] at Vp
      clear hD
      have ht := wrote_below HWR.out.lt hb
      replace HBB := Lib.hid (HBB.out.trans ht)
      replace HWR := Lib.hid (HWR.out.below hb)
      clear hb ht
      generalize D1.heap.size = p at *
      refine wpAnyH_ready (rs := [8]) (by kernel_rfl) (by simp) ?_
      refine AllReadyH.cons (o := ?_) ?_ (fun K hK => ?_) AllReadyH.nil
      rotate_left 1
      · (simp only [List.getElem?_toArray, List.getElem?_cons_succ, List.getElem?_cons_zero]; first | done | rfl)
      go_simp
      go_at_call 29
      refine (wbyte_va HWR.out Vp.out (by simp [encText_len]; omega)).mono ?_
      rintro e D3 ⟨rfl, hwr, hwt⟩
      first | (refine hK.out _ _ ?_ (fun hq3 => ?_)) | (go_wp2_with fail; refine hK.out _ _ ?_ (fun hq3 => ?_))
      · exact HSALL.out _ (HBB.out.trans hwt)
      clear hK K
      (try simp only [Act.put, List.setIfInBounds_toArray, List.set_cons_zero, List.set_cons_succ])
      clear hq2
      replace Vp := Lib.hid (Vp.out.wrote hwt)
      replace HBB := Lib.hid (HBB.out.trans hwt)
      replace HWR := Lib.hid hwr
      clear hwr hwt
      refine wpAnyH_done (by kernel_rfl) ?_ _
      go_wp2_with fail
      go_meet
      exact ⟨HWR, HBB⟩
    · skip
      go_simp
      refine hK.out _ _ ?_ (fun hq1 => ?_)
      · exact HSALL.out _ (HBB.out.trans (wrote_below HWR.out.lt (balloc _ _)))
      clear hK K
      (try simp only [Act.put, List.setIfInBounds_toArray, List.set_cons_zero, List.set_cons_succ])
      clear hq0
      generalize hD : World.alloc D0 _ = D4 at hq1 ⊢
      have hb : Below D0.heap.size D0 D4 := by rw [← hD]; exact balloc _ _
      have Vp := Lib.hid (va_one (l.length : Int) 3 HWR.out); rw [hD] at Vp
      clear hD
      have ht := wrote_below HWR.out.lt hb
      replace HBB := Lib.hid (HBB.out.trans ht)
      replace HWR := Lib.hid (HWR.out.below hb)
      clear hb ht
      generalize D0.heap.size = p at *
      refine wpAnyH_ready (rs := [3]) (by kernel_rfl) (by simp) ?_
      refine AllReadyH.cons (o := ?_) ?_ (fun K hK => ?_) AllReadyH.nil
      rotate_left 1
      · (simp only [List.getElem?_toArray, List.getElem?_cons_succ, List.getElem?_cons_zero]; first | done | rfl)
      go_simp
      go_at_call 31
      refine (wtext_any b _ sf _ HWR.out (by omega)).mono ?_
      rintro e D5 ⟨rfl, hwr, hwt⟩
      first | (refine hK.out _ _ ?_ (fun hq2 => ?_)) | (go_wp2_with fail; refine hK.out _ _ ?_ (fun hq2 => ?_))
      · exact HSALL.out _ (HBB.out.trans hwt)
      clear hK K
      (try simp only [Act.put, List.setIfInBounds_toArray, List.set_cons_zero, List.set_cons_succ])
      clear hq1
      replace Vp := Lib.hid (Vp.out.wrote hwt)
      replace HBB := Lib.hid (HBB.out.trans hwt)
      replace HWR := Lib.hid hwr
      clear hwr hwt
      refine wpAnyH_ready (rs := [8]) (by kernel_rfl) (by simp) ?_
      refine AllReadyH.cons (o := ?_) ?_ (fun K hK => ?_) AllReadyH.nil
      rotate_left 1
      · (simp only [List.getElem?_toArray, List.getElem?_cons_succ, List.getElem?_cons_zero]; first | done | rfl)
      go_simp
      go_at_call 29
      refine (wbyte_va HWR.out Vp.out (by simp [encText_len]; omega)).mono ?_
      rintro e D6 ⟨rfl, hwr, hwt⟩
      first | (refine hK.out _ _ ?_ (fun hq3 => ?_)) | (go_wp2_with fail; refine hK.out _ _ ?_ (fun hq3 => ?_))
      · exact HSALL.out _ (HBB.out.trans hwt)
      clear hK K
      (try simp only [Act.put, List.setIfInBounds_toArray, List.set_cons_zero, List.set_cons_succ])
      clear hq2
      replace Vp := Lib.hid (Vp.out.wrote hwt)
      replace HBB := Lib.hid (HBB.out.trans hwt)
      replace HWR := Lib.hid hwr
      clear hwr hwt
      refine wpAnyH_done (by kernel_rfl) ?_ _
      go_wp2_with fail
      go_meet
      exact ⟨HWR, HBB⟩
  case rest =>
    obtain ⟨HW1, HT1⟩ := hcut
    obtain ⟨x0, x1⟩ := HSALL.out _ HT1.out
    have HT2 := Lib.hid (HWT0.out.trans HT1.out)
    clear HWR HSALL HFR
    go_wp2_with fail
    go_loopw [19] (fun vi wr => ∃ k : Nat, k ≤ l.length ∧ vi = .int .i64 k ∧ Wr wr b (s ++ encText sf ++ [byteOf l.length] ++ encAttrs (l.take k)) ∧ Wrote b w wr) (fun vi _ => l.length - (RowKit.intOf vi).toNat)
    case atStart => exact ⟨0, Nat.zero_le _, rfl, by simpa [encAttrs] using HW1.out, HT2.out⟩
    case round =>
      obtain ⟨k, hk, rfl, hwr, hwt⟩ := hrel
      by_cases hlt : k < l.length
      · have i1 : (k : Int) < (l.length : Int) := by omega
        have i0 : (0 : Int) ≤ (k : Int) := by omega
        obtain ⟨a, rfl, v0, v1, v2, v3, v4, v5⟩ := (HCN.out _ hwt) k hlt
        have hnm := HNUM.out _ (List.getElem_mem hlt)
        have hsu := encAttrs_succ l k hlt
        have hle1 := encAttrs_le l (k + 1)
        have hla : (s ++ encText sf ++ [byteOf l.length] ++ encAttrs (l.take k)).length = s.length + sf.length + 2 + (encAttrs (l.take k)).length := by simp [encText_len]; omega
        rw [hsu, List.length_append] at hle1
        generalize l[k] = c at *
        generalize hS : s ++ encText sf ++ [byteOf l.length] ++ encAttrs (l.take k) = S at *
        have HSU := Lib.hid hsu; have HS := Lib.hid hS; have HWT := Lib.hid hwt; have HWQ := Lib.hid hwr
        obtain ⟨nm, ⟨k1, n1, x1', t1, y1⟩⟩ := c
        dsimp only at hnm v0 v1 v2 v3 v4 v5
        have hlc : S.length + nm.length + 1 + (encVal k1 n1 x1' t1 y1).length ≤ 1000000 := by
          unfold encAttr at hle1
          simp only [List.length_append, encText_len] at hle1
          omega
        clear hsu hS hwt hwr hle1 hla
        go_upto_region 5 with fail
        have hcat := aat_new wr ⟨nm, ⟨k1, n1, x1', t1, y1⟩⟩ 76
        dsimp only at hcat
        have hal := balloc wr (.cells #[.string ⟨nm.toArray⟩, .int .i64 k1, .int .i64 n1, .float .f64 x1', .string ⟨t1.toArray⟩, .bool y1] 76)
        have hsz : wr.heap.size < (wr.alloc (.cells #[.string ⟨nm.toArray⟩, .int .i64 k1, .int .i64 n1, .float .f64 x1', .string ⟨t1.toArray⟩, .bool y1] 76)).heap.size := by simp
        generalize World.alloc wr _ = W1 at *
        have hfr := HWQ.out.free_new hal (Nat.le_refl _) hsz
        have hwt1 := wrote_below HWQ.out.lt hal
        have hsall : ∀ W, Wrote b W1 W → (fun w' => w'.cell? ⟨wr.heap.size, 0, none⟩ = some (.string ⟨nm.toArray⟩) ∧ w'.cell? ⟨wr.heap.size, 1, none⟩ = some (.int .i64 k1) ∧ w'.cell? ⟨wr.heap.size, 2, none⟩ = some (.int .i64 n1) ∧ w'.cell? ⟨wr.heap.size, 3, none⟩ = some (.float .f64 x1') ∧ w'.cell? ⟨wr.heap.size, 4, none⟩ = some (.string ⟨t1.toArray⟩) ∧ w'.cell? ⟨wr.heap.size, 5, none⟩ = some (.bool y1)) W := fun W hb => ⟨(hb.cell hfr 0).trans hcat.1, (hb.cell hfr 1).trans hcat.2.1, (hb.cell hfr 2).trans hcat.2.2.1, (hb.cell hfr 3).trans hcat.2.2.2.1, (hb.cell hfr 4).trans hcat.2.2.2.2.1, (hb.cell hfr 5).trans hcat.2.2.2.2.2⟩
        have HSALL := Lib.hid hsall; have HWT1 := Lib.hid (HWT.out.trans hwt1); have HWR := Lib.hid (HWQ.out.below hal)
        clear hsall hwt1 hfr hcat hal hsz v0 v1 v2 v3 v4 v5 HWQ HWT
        refine wp_region_held_drew (S := (fun w' => w'.cell? ⟨wr.heap.size, 0, none⟩ = some (.string ⟨nm.toArray⟩) ∧ w'.cell? ⟨wr.heap.size, 1, none⟩ = some (.int .i64 k1) ∧ w'.cell? ⟨wr.heap.size, 2, none⟩ = some (.int .i64 n1) ∧ w'.cell? ⟨wr.heap.size, 3, none⟩ = some (.float .f64 x1') ∧ w'.cell? ⟨wr.heap.size, 4, none⟩ = some (.string ⟨t1.toArray⟩) ∧ w'.cell? ⟨wr.heap.size, 5, none⟩ = some (.bool y1))) (by kernel_rfl) ?_ (fun hq0 => ?_)
        · exact HSALL.out _ (wrote_drew b W1)
        have HBB : Hid (Wrote b W1 W1.drew) := Lib.hid (wrote_drew b W1)
        replace HWR := Lib.hid (wr_drew HWR.out)
        generalize W1.drew = D0 at *
        (refine wpAnyH_take (i := 0) (oi := ?_) (v := ?_) ?_ (by kernel_rfl) (by kernel_rfl) (by kernel_rfl) ?_ (Or.inl ⟨?_, ?_⟩) (by assumption) ?_; rotate_left 2; (· (simp only [List.getElem?_toArray, List.getElem?_cons_zero]; first | done | rfl)); (· exact (fun _ _ _ h => h)); (· rfl); (· (intro w hSw; (try dsimp only at hSw); go_simp; (try with_reducible rfl))))
        (try simp only [Act.put, List.setIfInBounds_toArray, List.set_cons_zero, List.set_cons_succ])
        (refine wpAnyH_take (i := 1) (oi := ?_) (v := ?_) ?_ (by kernel_rfl) (by kernel_rfl) (by kernel_rfl) ?_ (Or.inl ⟨?_, ?_⟩) (by assumption) ?_; rotate_left 2; (· (simp only [List.getElem?_toArray, List.getElem?_cons_succ, List.getElem?_cons_zero]; first | done | rfl)); (· exact (fun _ _ _ h => h)); (· rfl); (· (intro w hSw; (try dsimp only at hSw); go_simp; (try with_reducible rfl))))
        (try simp only [Act.put, List.setIfInBounds_toArray, List.set_cons_zero, List.set_cons_succ])
        (refine wpAnyH_take (i := 2) (oi := ?_) (v := ?_) ?_ (by kernel_rfl) (by kernel_rfl) (by kernel_rfl) ?_ (Or.inl ⟨?_, ?_⟩) (by assumption) ?_; rotate_left 2; (· (simp only [List.getElem?_toArray, List.getElem?_cons_succ, List.getElem?_cons_zero]; first | done | rfl)); (· exact (fun _ _ _ h => h)); (· rfl); (· (intro w hSw; (try dsimp only at hSw); go_simp; (try with_reducible rfl))))
        (try simp only [Act.put, List.setIfInBounds_toArray, List.set_cons_zero, List.set_cons_succ])
        (refine wpAnyH_take (i := 4) (oi := ?_) (v := ?_) ?_ (by kernel_rfl) (by kernel_rfl) (by kernel_rfl) ?_ (Or.inl ⟨?_, ?_⟩) (by assumption) ?_; rotate_left 2; (· (simp only [List.getElem?_toArray, List.getElem?_cons_succ, List.getElem?_cons_zero]; first | done | rfl)); (· exact (fun _ _ _ h => h)); (· rfl); (· (intro w hSw; (try dsimp only at hSw); go_simp; (try with_reducible rfl))))
        (try simp only [Act.put, List.setIfInBounds_toArray, List.set_cons_zero, List.set_cons_succ])
        (refine wpAnyH_take (i := 5) (oi := ?_) (v := ?_) ?_ (by kernel_rfl) (by kernel_rfl) (by kernel_rfl) ?_ (Or.inl ⟨?_, ?_⟩) (by assumption) ?_; rotate_left 2; (· (simp only [List.getElem?_toArray, List.getElem?_cons_succ, List.getElem?_cons_zero]; first | done | rfl)); (· exact (fun _ _ _ h => h)); (· rfl); (· (intro w hSw; (try dsimp only at hSw); go_simp; (try with_reducible rfl))))
        (try simp only [Act.put, List.setIfInBounds_toArray, List.set_cons_zero, List.set_cons_succ])
        refine wpAnyH_ready (rs := [3]) (by kernel_rfl) (by simp) ?_
        refine AllReadyH.cons (o := ?_) ?_ (fun K hK => ?_) AllReadyH.nil
        rotate_left 1
        · (simp only [List.getElem?_toArray, List.getElem?_cons_succ, List.getElem?_cons_zero]; first | done | rfl)
        go_simp
        go_at_call 31
        refine (wtext_any b _ nm _ HWR.out (by omega)).mono ?_
        rintro e D1 ⟨rfl, hwr, hwt⟩
        first | (refine hK.out _ _ ?_ (fun hq1 => ?_)) | (go_wp2_with fail; refine hK.out _ _ ?_ (fun hq1 => ?_))
        · exact HSALL.out _ (HBB.out.trans hwt)
        clear hK K
        (try simp only [Act.put, List.setIfInBounds_toArray, List.set_cons_zero, List.set_cons_succ])
        clear hq0
        replace HBB := Lib.hid (HBB.out.trans hwt)
        replace HWR := Lib.hid hwr
        clear hwr hwt
        refine wpAnyH_ready (rs := [6]) (by kernel_rfl) (by simp) ?_
        refine AllReadyH.cons (o := ?_) ?_ (fun K hK => ?_) AllReadyH.nil
        rotate_left 1
        · (simp only [List.getElem?_toArray, List.getElem?_cons_succ, List.getElem?_cons_zero]; first | done | rfl)
        go_simp
        go_at_call 37
        refine (wvalue_any b _ k1 n1 x1' t1 y1 _ HWR.out hnm (by simp [encText_len]; omega)).mono ?_
        rintro e D2 ⟨rfl, hwr, hwt⟩
        first | (refine hK.out _ _ ?_ (fun hq2 => ?_)) | (go_wp2_with fail; refine hK.out _ _ ?_ (fun hq2 => ?_))
        · exact HSALL.out _ (HBB.out.trans hwt)
        clear hK K
        (try simp only [Act.put, List.setIfInBounds_toArray, List.set_cons_zero, List.set_cons_succ])
        clear hq1
        replace HBB := Lib.hid (HBB.out.trans hwt)
        replace HWR := Lib.hid hwr
        clear hwr hwt
        refine wpAnyH_done (by kernel_rfl) ?_ _
        go_wp2_with fail
        exact ⟨⟨k + 1, by omega, by go_num, by rw [HSU.out, ← List.append_assoc, HS.out]; unfold encAttr; simpa only [List.append_assoc] using HWR.out, HWT1.out.trans HBB.out⟩, by simp [RowKit.intOf]; go_num⟩
      · have i1 : ¬ (k : Int) < (l.length : Int) := by omega
        obtain rfl : k = l.length := by omega
        rw [List.take_length] at hwr
        go_wp2_with fail
        go_ret
        refine ⟨rfl, ?_, hwt⟩
        unfold encEvent
        simpa only [List.append_assoc] using hwr
end Go.Proofs.Ytpbdgbejcdncgaa.Wire
end

section
/- WHAT A READER TAKES: plain functions from bytes to values, and that what is taken are the value's bytes. No program in sight. -/
namespace Go.Proofs.Ytpbdgbejcdncgaa.Wire
open Go.Proofs.Ytpbdgbejcdncgaa.Val
def decText : List UInt8 → Option (List UInt8 × List UInt8)
  | [] => none
  | c :: t => if t.length < c.toNat then none else some (t.take c.toNat, t.drop c.toNat)
def longOf (s : List UInt8) : Nat := s.foldl (fun x c => x * 256 + c.toNat) 0
def decLong (s : List UInt8) : Option (Nat × List UInt8) := if s.length < 8 then none else some (longOf (s.take 8), s.drop 8)
def i64of (x : Nat) : Int := IntKind.i64.wrap (x : Int)
/-- many of a kind, one behind the other -/
def decMany {α : Type} (f : List UInt8 → Option (α × List UInt8)) : Nat → List UInt8 → Option (List α × List UInt8)
  | 0, s => some ([], s)
  | n + 1, s => match f s with
    | none => none
    | some (a, t) => match decMany f n t with
      | none => none
      | some (l, r) => some (a :: l, r)
theorem decText_enc {s t r : List UInt8} (h : decText s = some (t, r)) : s = encText t ++ r ∧ t.length < 256 := by
  cases s with
  | nil => cases h
  | cons c u =>
    have h' : (if u.length < c.toNat then none else some (u.take c.toNat, u.drop c.toNat)) = some (t, r) := h
    by_cases hlt : u.length < c.toNat
    · rw [if_pos hlt] at h'; cases h'
    · rw [if_neg hlt] at h'
      injection h' with h
      injection h with h1 h2
      subst h1; subst h2
      have hc := c.toNat_lt
      have hl : (u.take c.toNat).length = c.toNat := by rw [List.length_take]; omega
      refine ⟨?_, by rw [hl]; exact hc⟩
      unfold encText
      rw [hl, byteOf_nat, List.cons_append, List.take_append_drop]
theorem longOf_snoc (s : List UInt8) (c : UInt8) : longOf (s ++ [c]) = longOf s * 256 + c.toNat := by unfold longOf; rw [List.foldl_append]; rfl
theorem longAt_eq {x q : Nat} {c : UInt8} (h : x / 2 ^ q % 256 = c.toNat) : longAt x q = c := by
  unfold longAt
  rw [h]
  exact UInt8.ofNat_toNat
theorem long_enc8 (a b c d e f g h : UInt8) : encLong (longOf [a, b, c, d, e, f, g, h]) = [a, b, c, d, e, f, g, h] ∧ longOf [a, b, c, d, e, f, g, h] < 18446744073709551616 := by
  have ha := a.toNat_lt; have hb := b.toNat_lt; have hc := c.toNat_lt; have hd := d.toNat_lt
  have he := e.toNat_lt; have hf := f.toNat_lt; have hg := g.toNat_lt; have hh := h.toNat_lt
  have hx : longOf [a, b, c, d, e, f, g, h] = (((((((0 * 256 + a.toNat) * 256 + b.toNat) * 256 + c.toNat) * 256 + d.toNat) * 256 + e.toNat) * 256 + f.toNat) * 256 + g.toNat) * 256 + h.toNat := rfl
  generalize longOf [a, b, c, d, e, f, g, h] = x at *
  refine ⟨?_, by omega⟩
  unfold encLong
  rw [longAt_eq (q := 56) (c := a) (by simp only [Nat.reducePow]; omega), longAt_eq (q := 48) (c := b) (by simp only [Nat.reducePow]; omega), longAt_eq (q := 40) (c := c) (by simp only [Nat.reducePow]; omega), longAt_eq (q := 32) (c := d) (by simp only [Nat.reducePow]; omega), longAt_eq (q := 24) (c := e) (by simp only [Nat.reducePow]; omega), longAt_eq (q := 16) (c := f) (by simp only [Nat.reducePow]; omega), longAt_eq (q := 8) (c := g) (by simp only [Nat.reducePow]; omega), longAt_eq (q := 0) (c := h) (by simp only [Nat.reducePow]; omega)]
theorem decLong_enc {s r : List UInt8} {x : Nat} (h : decLong s = some (x, r)) : s = encLong x ++ r ∧ x < 18446744073709551616 := by
  unfold decLong at h
  split at h
  · cases h
  · rename_i hlt
    injection h with h
    injection h with h1 h2
    subst h1; subst h2
    match s, hlt with
    | a :: b :: c :: d :: e :: f :: g :: hh :: t, _ =>
      obtain ⟨h1, h2⟩ := long_enc8 a b c d e f g hh
      exact ⟨by show _ = encLong (longOf [a, b, c, d, e, f, g, hh]) ++ t; rw [h1]; rfl, h2⟩
    | [], hlt => simp at hlt
    | [_], hlt => simp at hlt
    | [_, _], hlt => simp at hlt
    | [_, _, _], hlt => simp at hlt
    | [_, _, _, _], hlt => simp at hlt
    | [_, _, _, _, _], hlt => simp at hlt
    | [_, _, _, _, _, _], hlt => simp at hlt
    | [_, _, _, _, _, _, _], hlt => simp at hlt
theorem u64_i64 {x : Nat} (h : x < 18446744073709551616) : u64of (i64of x) = x := by
  unfold u64of i64of
  simp only [IntKind.wrap, IntKind.bits, IntKind.signed]
  simp
  omega
theorem decMany_enc {α : Type} {f : List UInt8 → Option (α × List UInt8)} {g : α → List UInt8} (hf : ∀ s a t, f s = some (a, t) → s = g a ++ t) : ∀ (n : Nat) (s : List UInt8) (l : List α) (r : List UInt8), decMany f n s = some (l, r) → s = l.flatMap g ++ r ∧ l.length = n
  | 0, s, l, r, h => by
    unfold decMany at h
    injection h with h; injection h with h1 h2; subst h1; subst h2
    exact ⟨rfl, rfl⟩
  | n + 1, s, l, r, h => by
    unfold decMany at h
    cases h1 : f s with
    | none => rw [h1] at h; cases h
    | some p =>
      obtain ⟨a, t⟩ := p
      rw [h1] at h
      dsimp only at h
      cases h2 : decMany f n t with
      | none => rw [h2] at h; cases h
      | some q =>
        obtain ⟨l2, r2⟩ := q
        rw [h2] at h
        injection h with h; injection h with h3 h4; subst h3; subst h4
        obtain ⟨e1, e2⟩ := decMany_enc hf n t l2 r2 h2
        exact ⟨by rw [hf _ _ _ h1, e1, List.flatMap_cons, List.append_assoc], by simp [e2]⟩
end Go.Proofs.Ytpbdgbejcdncgaa.Wire
end

section
/- A READER OF BYTES: its box; Byte, Text, Long. -/
namespace Go.Proofs.Ytpbdgbejcdncgaa.Wire
open Go.RowKit Flt Go.Proofs.Ytpbdgbejcdncgaa.Val Go.Lib
variable {B : Nat}
attribute [local go_sem] run_store_flt
/-- what is thrown where bytes end too early, or tell nothing -/
abbrev shortP : Ending := .panicked [{ v := .iface 83 (.agg #[]), recovered := false }]
/-- a reader at box b that has the bytes s ahead -/
structure RdAt (W : World) (b B : Nat) (s : List UInt8) : Prop where
  ex : ∃ a0 cap, W.cell? ⟨b, 0, none⟩ = some (.slice a0 s.length cap) ∧ s.length ≤ cap ∧ cap ≤ maxLen ∧ BytesAt W a0 s ∧ (a0 = none → cap = 0) ∧ (s ≠ [] → ∀ a, a0 = some a → a.block < B)
  fz : W.frozen? ⟨b, 0, none⟩ = false
  hB : B ≤ b
/-- what a read leaves alone: all blocks but the reader's box -/
structure RK (b : Nat) (W W2 : World) : Prop where
  os : W2.os = W.os
  tape : W2.tape = W.tape
  output : W2.output = W.output
  size : W.heap.size ≤ W2.heap.size
  block : ∀ p, p < W.heap.size → p ≠ b → W2.heap[p]? = W.heap[p]?
theorem RK.refl (b : Nat) (W : World) : RK b W W := ⟨rfl, rfl, rfl, Nat.le_refl _, fun _ _ _ => rfl⟩
theorem RK.trans {b : Nat} {W W2 W3 : World} (h : RK b W W2) (k : RK b W2 W3) : RK b W W3 :=
  ⟨k.os.trans h.os, k.tape.trans h.tape, k.output.trans h.output, Nat.le_trans h.size k.size, fun p hp hne => (k.block p (Nat.lt_of_lt_of_le hp h.size) hne).trans (h.block p hp hne)⟩
theorem rk_below {b : Nat} {W W2 : World} (h : Below W.heap.size W W2) : RK b W W2 := ⟨h.os, h.tape, h.output, h.size, fun p hp _ => h.block p hp⟩
theorem RK.below {b B : Nat} {W W2 : World} (h : RK b W W2) (hB : B ≤ b) (hs : B ≤ W.heap.size) : Below B W W2 := ⟨h.os, h.tape, h.output, h.size, fun p hp => h.block p (by omega) (by omega)⟩
theorem RK.cell {b : Nat} {W W2 : World} (h : RK b W W2) {p : Addr} (h1 : p.block < W.heap.size) (h2 : p.block ≠ b) : W2.cell? p = W.cell? p := World.cell?_of_block (w := W) (h.block _ h1 h2)
theorem RK.frozen {b : Nat} {W W2 : World} (h : RK b W W2) {p : Addr} (h1 : p.block < W.heap.size) (h2 : p.block ≠ b) : W2.frozen? p = W.frozen? p := World.frozen?_of_block (w := W) (h.block _ h1 h2)
theorem RdAt.lt {W : World} {b : Nat} {s : List UInt8} (h : RdAt W b B s) : b < W.heap.size := by
  obtain ⟨⟨a0, cap, hc, _⟩, _, _⟩ := h
  exact World.block_lt_of_cell? _ _ hc
theorem RdAt.below {W W2 : World} {b : Nat} {s : List UInt8} (h : RdAt W b B s) (hb : Below W.heap.size W W2) : RdAt W2 b B s := by
  have hlt := h.lt
  obtain ⟨⟨a0, cap, hc, h1, h2, h3, h4, h5⟩, hf, hB⟩ := h
  exact ⟨⟨a0, cap, (hb.cell (p := ⟨b, 0, none⟩) hlt).trans hc, h1, h2, h3.below hb, h4, h5⟩, (hb.frozen (p := ⟨b, 0, none⟩) hlt).trans hf, hB⟩
/-- what is done above the reader leaves it alone -/
theorem RdAt.low {W W2 : World} {b : Nat} {s : List UInt8} (h : RdAt W b B s) (hb : Below (b + 1) W W2) : RdAt W2 b B s := by
  have hlt := h.lt
  obtain ⟨⟨a0, cap, hc, h1, h2, h3, h4, h5⟩, hf, hB⟩ := h
  refine ⟨⟨a0, cap, (hb.cell (p := ⟨b, 0, none⟩) (Nat.lt_succ_self b)).trans hc, h1, h2, fun i hi => ?_, h4, h5⟩, (hb.frozen (p := ⟨b, 0, none⟩) (Nat.lt_succ_self b)).trans hf, hB⟩
  obtain ⟨a, e, h6⟩ := h3 i hi
  have h7 := h5 (fun e0 => by rw [e0] at hi; simp at hi) a e
  have hab : (a.add i).block = a.block := by unfold Addr.add; split <;> rfl
  exact ⟨a, e, (hb.cell (by rw [hab]; omega)).trans h6⟩
theorem rk_set (b : Nat) (W : World) (v : Value) : RK b W (W.setCell ⟨b, 0, none⟩ v) := ⟨rfl, rfl, rfl, by simp, fun p _ hne => Below.heap_setCell _ _ _ _ hne⟩
/-- behind a step ahead -/
theorem rd_step {W : World} {b : Nat} {a : Addr} {s : List UInt8} {cap k : Nat} (hc : W.cell? ⟨b, 0, none⟩ = some (.slice (some a) s.length cap)) (hz : W.frozen? ⟨b, 0, none⟩ = false) (h1 : s.length ≤ cap) (h2 : cap ≤ maxLen) (h3 : BytesAt W (some a) s) (h5 : s ≠ [] → a.block < B) (hB : B ≤ b) (hk : k ≤ s.length) :
    RdAt (W.setCell ⟨b, 0, none⟩ (.slice (some (a.add k)) (s.length - k) (cap - k))) b B (s.drop k) := by
  have hab : ∀ i, (a.add i).block = a.block := fun i => by unfold Addr.add; split <;> rfl
  have hadd : ∀ i, (a.add k).add i = a.add (k + i) := fun i => Addr.add_add a k i
  refine ⟨⟨some (a.add k), cap - k, ?_, by rw [List.length_drop]; omega, by omega, fun i hi => ⟨_, rfl, ?_⟩, (fun e => by cases e), fun hne a2 e => by injection e with e; rw [← e, hab]; exact h5 (fun e0 => hne (by rw [e0]; simp))⟩, by simpa using hz, hB⟩
  · rw [List.length_drop]; exact World.cell?_setCell_same _ _ _ hc
  · rw [List.length_drop] at hi
    obtain ⟨a2, e2, h6⟩ := h3 (k + i) (by omega)
    injection e2 with e2
    subst e2
    rw [hadd, World.cell?_setCell_other _ _ _ _ (by intro e; have := congrArg Addr.block e; rw [hab] at this; have h7 := h5 (fun e0 => by rw [e0] at hi; simp at hi); rw [← this] at h7; exact Nat.lt_irrefl _ (Nat.lt_of_lt_of_le h7 hB)), h6, List.getElem_drop]
/-- behind the last step -/
theorem rd_end {W : World} {b : Nat} {a : Addr} {v : Value} (hc : W.cell? ⟨b, 0, none⟩ = some v) (hz : W.frozen? ⟨b, 0, none⟩ = false) (hB : B ≤ b) :
    RdAt (W.setCell ⟨b, 0, none⟩ (.slice (some a) 0 0)) b B [] :=
  ⟨⟨some a, 0, World.cell?_setCell_same _ _ _ hc, Nat.le_refl _, Nat.zero_le _, fun i hi => absurd hi (Nat.not_lt_zero _), (fun e => by cases e), fun hne => absurd rfl hne⟩, by simpa using hz, hB⟩
/-- what a read tells: what it took, and what is left; or nothing -/
def Took {α : Type} (B b : Nat) (w : World) (d : Option (α × List UInt8)) (ret : α → Value) (e : Ending) (w' : World) : Prop :=
  (∃ a t, d = some (a, t) ∧ e = .returned (ret a) ∧ RdAt w' b B t ∧ RK b w w') ∨ (d = none ∧ e = shortP ∧ RK b w w')
theorem took_yes {α : Type} {b : Nat} {w w' : World} {d : Option (α × List UInt8)} {ret : α → Value} {e : Ending} (a : α) (t : List UInt8) (h1 : d = some (a, t)) (h2 : e = .returned (ret a)) (h3 : RdAt w' b B t) (h4 : RK b w w') : Took B b w d ret e w' := .inl ⟨a, t, h1, h2, h3, h4⟩
theorem took_no {α : Type} {b : Nat} {w w' : World} {d : Option (α × List UInt8)} {ret : α → Value} {e : Ending} (h1 : d = none) (h2 : e = shortP) (h4 : RK b w w') : Took B b w d ret e w' := .inr ⟨h1, h2, h4⟩
def decByte : List UInt8 → Option (UInt8 × List UInt8)
  | [] => none
  | c :: t => some (c, t)
set_option maxRecDepth 20000 in
set_option maxHeartbeats 4000000 in
theorem rbyte_any (b : Nat) (s : List UInt8) (w : World) (h : RdAt w b B s) :
    Calls Try.prog 21 #[.pointer (some ⟨b, 0, none⟩)] w fun e w' => Took B b w (decByte s) (fun c => .int .i64 (c.toNat : Int)) e w' := by
  obtain ⟨⟨a0, cap, hc, h1, h2, h3, h4, h5⟩, hz, hB⟩ := h
  cases s with
  | nil =>
    clear h3
    go_enter Try.func21, Try.ntmps21
    go_wp2_with fail
    exact ⟨rfl, took_no rfl rfl (RK.refl _ _)⟩
  | cons c t =>
    obtain ⟨a, rfl, ha⟩ := h3 0 (by simp)
    have hst := rd_step hc hz h1 h2 h3 (fun hne => h5 hne a rfl) hB (k := 1) (by simp)
    have hen := rd_end (a := a) hc hz hB
    have ha0 : w.cell? a = some (.int .u8 (c.toNat : Int)) := by
      have : a.add 0 = a := by simp [Addr.add]
      rw [← this]; exact ha
    have hlt : b < w.heap.size := World.block_lt_of_cell? _ _ hc
    have hc8 := c.toNat_lt
    have HST := Lib.hid hst; have HEN := Lib.hid hen; clear hst h3 h4 h5 ha hen
    have j1 : (1 : Int) ≤ (cap : Int) := by simp at h1; omega
    rw [List.length_cons] at hc h1
    go_enter Try.func21, Try.ntmps21
    go_wp2_with fail
    all_goals
      go_ret
      refine took_yes c t rfl rfl ?_ (rk_set _ _ _)
    · have ht : t = [] := List.eq_nil_of_length_eq_zero (by omega)
      subst ht
      exact HEN.out
    · exact HST.out
set_option maxRecDepth 20000 in
set_option maxHeartbeats 4000000 in
theorem rtext_any (b : Nat) (s : List UInt8) (w : World) (h : RdAt w b B s) :
    Calls Try.prog 24 #[.pointer (some ⟨b, 0, none⟩)] w fun e w' => Took B b w (decText s) (fun t => .string ⟨t.toArray⟩) e w' := by
  have HH := Lib.hid h; clear h
  go_enter Try.func24, Try.ntmps24
  go_upto_region 2 with ((go_at_call 21; refine (rbyte_any b s w HH.out).mono ?_; rintro e w1 (⟨c, t, hd, rfl, hr, hk⟩ | ⟨hd, rfl, hk⟩)))
  · obtain ⟨⟨a0, cap, hc, h1, h2, h3, h4, h5⟩, hz, hB⟩ := hr
    have hs : s = c :: t := by
      cases s with
      | nil => cases hd
      | cons x y => injection hd with hd; injection hd with e1 e2; rw [e1, e2]
    have hlt : b < w1.heap.size := World.block_lt_of_cell? _ _ hc
    by_cases hn : t.length < c.toNat
    · have i1 : (t.length : Int) < (c.toNat : Int) := by omega
      have HD := Lib.hid (show decText s = none from by rw [hs]; show (if t.length < c.toNat then _ else _) = _; rw [if_pos hn])
      clear h3 h4 h5 hd hs
      go_wp2_with fail
      exact ⟨rfl, took_no HD.out rfl hk⟩
    · have i1 : ¬ (t.length : Int) < (c.toNat : Int) := by omega
      have i2 : (c.toNat : Int) ≤ (t.length : Int) := by omega
      have i3 : (c.toNat : Int) ≤ (cap : Int) := by omega
      have i4 : (0 : Int) ≤ (c.toNat : Int) := by omega
      have HD := Lib.hid (show decText s = some (t.take c.toNat, t.drop c.toNat) from by rw [hs]; show (if t.length < c.toNat then _ else _) = _; rw [if_neg hn])
      cases a0 with
      | none =>
        obtain rfl := h4 rfl
        have ht : t = [] := List.eq_nil_of_length_eq_zero (by omega)
        subst ht
        have hc0 : c.toNat = 0 := by simpa using hn
        have hen : RdAt (w1.setCell ⟨b, 0, none⟩ (.slice none 0 0)) b B [] := ⟨⟨none, 0, World.cell?_setCell_same _ _ _ hc, Nat.le_refl _, Nat.zero_le _, fun i hi => absurd hi (Nat.not_lt_zero _), (fun _ => rfl), fun hne => absurd rfl hne⟩, by simpa using hz, hB⟩
        rw [hc0] at HD ⊢
        have HEN := Lib.hid hen
        have hcv0 : ∀ W, (convert 22 9 (.slice none 0 0)).run Try.prog W = .ok (.string ⟨#[]⟩) W := fun W => by kernel_rfl
        clear h3 h4 h5 hd hs hen i1 i2 i3 i4 hn
        go_wp2_with fail
        go_ret
        exact took_yes [] [] HD.out rfl HEN.out (hk.trans (rk_set _ _ _))
      | some a =>
        have hcv : (convert 22 9 (.slice (some a) c.toNat cap)).run Try.prog w1 = .ok (.string ⟨(t.take c.toNat).toArray⟩) w1 := by
          have hl : (t.take c.toNat).length = c.toNat := by rw [List.length_take]; omega
          have := run_convert_bytes_back w1 22 9 5 a cap (t.take c.toNat) Try.underlying22 Try.underlying5 Try.underlying9 (fun j hj => by
            obtain ⟨a2, e2, h6⟩ := h3 j (by omega)
            injection e2 with e2
            subst e2
            rw [h6, List.getElem_take])
          rw [hl] at this
          exact this
        have hst := rd_step hc hz h1 h2 h3 (fun hne => h5 hne a rfl) hB (k := c.toNat) (by omega)
        have hen := rd_end (a := a) hc hz hB
        have HST := Lib.hid hst; have HEN := Lib.hid hen; have HCV := Lib.hid hcv
        clear hst hen h3 h4 h5 hd hs
        go_wp2_with fail
        all_goals
          go_ret
          refine took_yes _ _ HD.out rfl ?_ (hk.trans (rk_set _ _ _))
        · have e1 : t.length = c.toNat := by omega
          rw [e1, Nat.sub_self, List.drop_of_length_le (by omega)]
          exact HEN.out
        · exact HST.out
  · exact ⟨rfl, took_no (by cases s with | nil => rfl | cons x y => cases hd) rfl hk⟩
theorem fold_lt (s : List UInt8) : ∀ acc, s.foldl (fun x (c : UInt8) => x * 256 + c.toNat) acc < (acc + 1) * 256 ^ s.length := by
  induction s with
  | nil => intro acc; simp
  | cons c t ih =>
    intro acc
    have h := ih (acc * 256 + c.toNat)
    have hc := c.toNat_lt
    rw [List.foldl_cons, List.length_cons, Nat.pow_succ]
    have h2 : (acc * 256 + c.toNat + 1) * 256 ^ t.length ≤ ((acc + 1) * 256) * 256 ^ t.length := Nat.mul_le_mul_right _ (by omega)
    have h3 : (acc + 1) * (256 ^ t.length * 256) = ((acc + 1) * 256) * 256 ^ t.length := by rw [Nat.mul_comm (256 ^ t.length) 256, Nat.mul_assoc]
    omega
theorem longOf_lt {s : List UInt8} (h : s.length ≤ 7) : longOf s < 72057594037927936 := by
  have h1 := fold_lt s 0
  have h2 : 256 ^ s.length ≤ 256 ^ 7 := Nat.pow_le_pow_right (by decide) h
  have h3 : (256 : Nat) ^ 7 = 72057594037927936 := by decide
  unfold longOf
  omega
theorem or_byte {X c : Nat} (hX : X < 72057594037927936) (hc : c < 256) : bits .or .u64 (IntKind.u64.wrap ((X : Int) * 256)) (IntKind.u64.wrap (c : Int)) = ((X * 256 + c : Nat) : Int) := by
  have e1 : IntKind.u64.wrap ((X : Int) * 256) = ((X * 256 : Nat) : Int) := by
    simp only [IntKind.wrap, IntKind.bits, IntKind.signed]; simp; omega
  have e2 : IntKind.u64.wrap (c : Int) = (c : Int) := by
    simp only [IntKind.wrap, IntKind.bits, IntKind.signed]; simp; omega
  rw [e1, e2]
  show IntKind.u64.wrap ((BitVec.ofInt 64 ((X * 256 : Nat) : Int) ||| BitVec.ofInt 64 (c : Int)).toNat : Int) = _
  rw [BitVec.toNat_or, BitVec.ofInt_natCast, BitVec.ofInt_natCast, BitVec.toNat_ofNat, BitVec.toNat_ofNat, Nat.mod_eq_of_lt (by omega), Nat.mod_eq_of_lt (by omega)]
  have h := Nat.shiftLeft_add_eq_or_of_lt (i := 8) (b := c) (by simpa using hc) X
  rw [Nat.shiftLeft_eq] at h
  rw [show (2 : Nat) ^ 8 = 256 from rfl] at h
  rw [← h]
  simp only [IntKind.wrap, IntKind.bits, IntKind.signed]; simp; omega
theorem drop_facts {s t : List UInt8} {k : Nat} {c : UInt8} (h : decByte (s.drop k) = some (c, t)) : k < s.length ∧ s.take (k + 1) = s.take k ++ [c] ∧ s.drop (k + 1) = t := by
  have hd : s.drop k = c :: t := by
    cases hs : s.drop k with
    | nil => rw [hs] at h; cases h
    | cons x y => rw [hs] at h; injection h with h; injection h with e1 e2; rw [e1, e2]
  have hl : k < s.length := by
    have := congrArg List.length hd
    rw [List.length_drop, List.length_cons] at this
    omega
  refine ⟨hl, ?_, ?_⟩
  · rw [List.take_add_one]
    congr 1
    have : s[k]? = (s.drop k)[0]? := by rw [List.getElem?_drop]; simp
    rw [this, hd]; rfl
  · rw [← List.drop_drop, hd]; rfl
set_option maxRecDepth 20000 in
set_option maxHeartbeats 4000000 in
theorem rlong_any (b : Nat) (s : List UInt8) (w : World) (h : RdAt w b B s) :
    Calls Try.prog 25 #[.pointer (some ⟨b, 0, none⟩)] w fun e w' => Took B b w (decLong s) (fun x => .int .u64 (x : Int)) e w' := by
  have HH := Lib.hid h; clear h
  go_enter Try.func25, Try.ntmps25
  go_wp2_with fail
  go_loopw [3, 4] (fun vx vi wr => ∃ k : Nat, k ≤ 8 ∧ k ≤ s.length ∧ vi = .int .i64 k ∧ vx = .int .u64 (longOf (s.take k)) ∧ RdAt wr b B (s.drop k) ∧ RK b w wr) (fun _ vi _ => 8 - (RowKit.intOf vi).toNat)
  case atStart => exact ⟨0, by omega, by omega, rfl, rfl, HH.out, RK.refl _ _⟩
  case round =>
    obtain ⟨k, hk, hks, rfl, rfl, hrd, hrk⟩ := hrel
    by_cases hlt : k < 8
    · have i1 : (k : Int) < 8 := by omega
      have HRD := Lib.hid hrd; have HRK := Lib.hid hrk; clear hrd hrk
      obtain ⟨X, hX⟩ : ∃ X, longOf (s.take k) = X := ⟨_, rfl⟩
      rw [hX]
      go_wp2_with (first | (go_at_call 21; refine (rbyte_any b _ wr HRD.out).mono ?_; rintro e w1 (⟨c, t, hd, rfl, hr, hk⟩ | ⟨hd, rfl, hk⟩)) | fail)
      · obtain ⟨f1, f2, f3⟩ := drop_facts hd
        have hX7 : X < 72057594037927936 := by rw [← hX]; exact longOf_lt (by rw [List.length_take]; omega)
        refine ⟨⟨k + 1, by omega, by omega, by go_num, ?_, by rw [f3]; exact hr, HRK.out.trans hk⟩, by simp [RowKit.intOf]; go_num⟩
        rw [or_byte hX7 c.toNat_lt, f2, longOf_snoc, hX]
      · refine ⟨rfl, took_no ?_ rfl (HRK.out.trans hk)⟩
        have hl : s.length ≤ k := by
          cases hs : s.drop k with
          | nil => exact List.drop_eq_nil_iff.1 hs
          | cons x y => rw [hs] at hd; cases hd
        unfold decLong
        rw [if_pos (by omega)]
    · have i1 : ¬ (k : Int) < 8 := by omega
      obtain rfl : k = 8 := by omega
      go_wp2_with fail
      go_ret
      exact took_yes _ _ (by unfold decLong; rw [if_neg (by omega)]) rfl hrd hrk
end Go.Proofs.Ytpbdgbejcdncgaa.Wire
end

section
/- THE WALKS OF package order: Back. -/
namespace Go.Proofs.Ytpbdgbejcdncgaa.Ord
open Go.RowKit Flt
attribute [local go_sem] ford_eq ford_lt ford_gt
theorem none_most (k : Nat) : ((k : Int) == 18446744073709551615) = decide (k = most) := by
  rw [Bool.eq_iff_iff]; unfold most; simp; omega
theorem bne_cast (a b : Nat) : ((a : Int) != (b : Int)) = (a != b) := by rw [bne, bne, beq_cast]
set_option maxHeartbeats 400000 in
theorem back_any (k : Nat) (hk : k < 18446744073709551616) (w : World) :
    Calls Try.prog 48 #[.int .u64 k] w fun e w' => e = .returned (.tuple #[.float .f64 (back k).1, .bool (back k).2]) ∧ w = w' := by
  have hc := frombits_call
  have hs : IntKind.u64.signed = false := by decide
  have hbl := backB_lt hk
  have hx := umax_xor k hk
  have ho := top_off k hk
  have h1 := ford_ne_self (backB k)
  have hB : backB k = if k / 9223372036854775808 = 0 then most - k else k % 9223372036854775808 := rfl
  have hR : back k = if k = most then (nan0, true) else if nan (backB k) || key (backB k) != k then (0, false) else (backB k, true) := rfl
  have hq := none_most k
  have hne := bne_cast (key (backB k)) k
  by_cases h : k / 9223372036854775808 = 0
  · have hz : ((k : Int) / 9223372036854775808 == 0) = true := by rw [beq_iff_eq]; omega
    rw [if_pos h] at hB
    rw [← hB] at hx
    clear hB h hk
    by_cases hm : k = most
    · rw [if_pos hm] at hR
      rw [decide_eq_true hm] at hq
      clear hm hne h1
      rw [hR]; clear hR
      go_enter Try.func48, Try.ntmps48
      go_wp2_with (go_at_call 59; refine (nan_any _).mono ?_; rintro e w' ⟨rfl, rfl⟩)
      go_ret2
      exact ⟨rfl, rfl⟩
    · rw [if_neg hm] at hR
      rw [decide_eq_false hm] at hq
      clear hm
      cases hn : nan (backB k)
      · rw [hn] at h1 hR
        cases hkk : key (backB k) != k
        · rw [hkk] at hR hne; clear hn hkk
          rw [show back k = (backB k, true) from hR]; clear hR
          go_enter Try.func48, Try.ntmps48
          go_wp2_with (go_at_call 46; refine (key_any _ hbl _).mono ?_; rintro e w' ⟨rfl, rfl⟩)
          go_ret2
          exact ⟨rfl, rfl⟩
        · rw [hkk] at hR hne; clear hn hkk
          rw [show back k = (0, false) from hR]; clear hR
          go_enter Try.func48, Try.ntmps48
          go_wp2_with (go_at_call 46; refine (key_any _ hbl _).mono ?_; rintro e w' ⟨rfl, rfl⟩)
          go_ret2
          exact ⟨rfl, rfl⟩
      · rw [hn] at h1 hR; clear hn hne
        rw [show back k = (0, false) from hR]; clear hR
        go_enter Try.func48, Try.ntmps48
        go_wp2
        go_ret2
        exact ⟨rfl, rfl⟩
  · have hz : ((k : Int) / 9223372036854775808 == 0) = false := by rw [beq_eq_false_iff_ne]; omega
    rw [if_neg h] at hB
    rw [← hB] at ho
    clear hB h hk hx
    by_cases hm : k = most
    · rw [if_pos hm] at hR
      rw [decide_eq_true hm] at hq
      clear hm hne h1
      rw [hR]; clear hR
      go_enter Try.func48, Try.ntmps48
      go_wp2_with (go_at_call 59; refine (nan_any _).mono ?_; rintro e w' ⟨rfl, rfl⟩)
      go_ret2
      exact ⟨rfl, rfl⟩
    · rw [if_neg hm] at hR
      rw [decide_eq_false hm] at hq
      clear hm
      cases hn : nan (backB k)
      · rw [hn] at h1 hR
        cases hkk : key (backB k) != k
        · rw [hkk] at hR hne; clear hn hkk
          rw [show back k = (backB k, true) from hR]; clear hR
          go_enter Try.func48, Try.ntmps48
          go_wp2_with (go_at_call 46; refine (key_any _ hbl _).mono ?_; rintro e w' ⟨rfl, rfl⟩)
          go_ret2
          exact ⟨rfl, rfl⟩
        · rw [hkk] at hR hne; clear hn hkk
          rw [show back k = (0, false) from hR]; clear hR
          go_enter Try.func48, Try.ntmps48
          go_wp2_with (go_at_call 46; refine (key_any _ hbl _).mono ?_; rintro e w' ⟨rfl, rfl⟩)
          go_ret2
          exact ⟨rfl, rfl⟩
      · rw [hn] at h1 hR; clear hn hne
        rw [show back k = (0, false) from hR]; clear hR
        go_enter Try.func48, Try.ntmps48
        go_wp2
        go_ret2
        exact ⟨rfl, rfl⟩
end Go.Proofs.Ytpbdgbejcdncgaa.Ord
end

section
/- A READER OF BYTES: a value. -/
namespace Go.Proofs.Ytpbdgbejcdncgaa.Wire
open Go.RowKit Flt Go.Proofs.Ytpbdgbejcdncgaa.Val Go.Lib
variable {B : Nat}
attribute [local go_sem] run_store_flt
def decVal : List UInt8 → Option (V × List UInt8)
  | [] => none
  | c :: t =>
    if c = 0 then match decLong t with
      | none => none
      | some (x, r) => some (⟨0, i64of x, 0, [], false⟩, r)
    else if c = 1 then match decLong t with
      | none => none
      | some (x, r) => if (Ord.back x).2 then some (⟨1, 0, (Ord.back x).1, [], false⟩, r) else none
    else if c = 2 then match decText t with
      | none => none
      | some (u, r) => if u.length ≤ 40 then some (⟨2, 0, 0, u, false⟩, r) else none
    else if c = 3 then match t with
      | [] => none
      | d :: r => if d.toNat ≤ 1 then some (⟨3, 0, 0, [], d == 1⟩, r) else none
    else none
/-- five cells of a box -/
structure Box5 (W : World) (p : Nat) (v0 v1 v2 v3 v4 : Value) : Prop where
  c0 : W.cell? ⟨p, 0, none⟩ = some v0
  c1 : W.cell? ⟨p, 1, none⟩ = some v1
  c2 : W.cell? ⟨p, 2, none⟩ = some v2
  c3 : W.cell? ⟨p, 3, none⟩ = some v3
  c4 : W.cell? ⟨p, 4, none⟩ = some v4
  z : ∀ o, W.frozen? ⟨p, o, none⟩ = false
theorem Box5.lt {W : World} {p : Nat} {v0 v1 v2 v3 v4 : Value} (h : Box5 W p v0 v1 v2 v3 v4) : p < W.heap.size := World.block_lt_of_cell? _ _ h.c0
theorem Box5.rk {W W2 : World} {p b : Nat} {v0 v1 v2 v3 v4 : Value} (h : Box5 W p v0 v1 v2 v3 v4) (hk : RK b W W2) (hne : p ≠ b) : Box5 W2 p v0 v1 v2 v3 v4 :=
  ⟨(hk.cell h.lt hne).trans h.c0, (hk.cell h.lt hne).trans h.c1, (hk.cell h.lt hne).trans h.c2, (hk.cell h.lt hne).trans h.c3, (hk.cell h.lt hne).trans h.c4, fun o => (hk.frozen (p := ⟨p, o, none⟩) h.lt hne).trans (h.z o)⟩
theorem Box5.below {W W2 : World} {p : Nat} {v0 v1 v2 v3 v4 : Value} (h : Box5 W p v0 v1 v2 v3 v4) (hb : Below W.heap.size W W2) : Box5 W2 p v0 v1 v2 v3 v4 :=
  ⟨(hb.cell (p := ⟨p, 0, none⟩) h.lt).trans h.c0, (hb.cell (p := ⟨p, 1, none⟩) h.lt).trans h.c1, (hb.cell (p := ⟨p, 2, none⟩) h.lt).trans h.c2, (hb.cell (p := ⟨p, 3, none⟩) h.lt).trans h.c3, (hb.cell (p := ⟨p, 4, none⟩) h.lt).trans h.c4, fun o => (hb.frozen (p := ⟨p, o, none⟩) h.lt).trans (h.z o)⟩
theorem Box5.other {W : World} {p q o : Nat} {u : Value} {v0 v1 v2 v3 v4 : Value} (h : Box5 W p v0 v1 v2 v3 v4) (hne : p ≠ q) : Box5 (W.setCell ⟨q, o, none⟩ u) p v0 v1 v2 v3 v4 := by
  have e : ∀ o2, (W.setCell ⟨q, o, none⟩ u).cell? ⟨p, o2, none⟩ = W.cell? ⟨p, o2, none⟩ := fun o2 => World.cell?_setCell_other _ _ _ _ (by intro e; injection e with e1; exact hne e1.symm)
  exact ⟨(e 0).trans h.c0, (e 1).trans h.c1, (e 2).trans h.c2, (e 3).trans h.c3, (e 4).trans h.c4, fun o2 => by simpa using h.z o2⟩
theorem box5_new (w : World) (v0 v1 v2 v3 v4 : Value) (T : TypeId) : Box5 (w.alloc (.cells #[v0, v1, v2, v3, v4] T)) w.heap.size v0 v1 v2 v3 v4 := by
  have c : ∀ o, (w.alloc (.cells #[v0, v1, v2, v3, v4] T)).cell? ⟨w.heap.size, o, none⟩ = #[v0, v1, v2, v3, v4][o]? := fun o => World.cell?_alloc_at _ _ _ _ rfl
  exact ⟨c 0, c 1, c 2, c 3, c 4, fun o => by simp⟩
theorem rk_far {b q o : Nat} {W : World} {u : Value} {W0 : World} (h : RK b W0 W) (hq : W0.heap.size ≤ q) : RK b W0 (W.setCell ⟨q, o, none⟩ u) :=
  ⟨h.os, h.tape, h.output, by simpa using h.size, fun p hp hne => by rw [Below.heap_setCell _ _ _ _ (by show p ≠ q; omega)]; exact h.block p hp hne⟩
theorem rd_far {b q o : Nat} {W : World} {u : Value} {s : List UInt8} (h : RdAt W b B s) (hq : b < q) : RdAt (W.setCell ⟨q, o, none⟩ u) b B s :=
  h.low ((Below.refl _ _).setCell (by show b + 1 ≤ q; omega) _)
/-- the five cells of the result are laid -/
theorem rd_put5 {b q : Nat} {W W0 : World} {s : List UInt8} {v0 v1 v2 v3 v4 : Value} (h : RdAt W b B s) (hk : RK b W0 W) (hq : b < q) (hq2 : W0.heap.size ≤ q) :
    RdAt (((((W.setCell ⟨q, 0, none⟩ v0).setCell ⟨q, 1, none⟩ v1).setCell ⟨q, 2, none⟩ v2).setCell ⟨q, 3, none⟩ v3).setCell ⟨q, 4, none⟩ v4) b B s ∧ RK b W0 (((((W.setCell ⟨q, 0, none⟩ v0).setCell ⟨q, 1, none⟩ v1).setCell ⟨q, 2, none⟩ v2).setCell ⟨q, 3, none⟩ v3).setCell ⟨q, 4, none⟩ v4) :=
  ⟨rd_far (rd_far (rd_far (rd_far (rd_far h hq) hq) hq) hq) hq, rk_far (rk_far (rk_far (rk_far (rk_far hk hq2) hq2) hq2) hq2) hq2⟩
theorem vright_is (v : V) (w : World) (B : Bool) (hB : vRight v = B) (ht : v.text.length ≤ 140737488351232) :
    Calls Try.prog 41 #[vv v] w fun e w' => e = .returned (.bool B) ∧ Below w.heap.size w w' := by
  obtain ⟨k, n, x, t, y⟩ := v
  have := vright_any k n x t y w ht
  rw [hB] at this
  exact this
theorem decVal_cons (c : UInt8) (t : List UInt8) : decVal (c :: t) = if c = 0 then match decLong t with
      | none => none
      | some (x, r) => some (⟨0, i64of x, 0, [], false⟩, r)
    else if c = 1 then match decLong t with
      | none => none
      | some (x, r) => if (Ord.back x).2 then some (⟨1, 0, (Ord.back x).1, [], false⟩, r) else none
    else if c = 2 then match decText t with
      | none => none
      | some (u, r) => if u.length ≤ 40 then some (⟨2, 0, 0, u, false⟩, r) else none
    else if c = 3 then match t with
      | [] => none
      | d :: r => if d.toNat ≤ 1 then some (⟨3, 0, 0, [], d == 1⟩, r) else none
    else none := rfl
theorem took_some {α : Type} {b : Nat} {w w' : World} {a : α} {t : List UInt8} {ret : α → Value} {e : Ending} (h : Took B b w (some (a, t)) ret e w') : e = .returned (ret a) ∧ RdAt w' b B t ∧ RK b w w' := by
  rcases h with ⟨a1, t1, hd, h1, h2, h3⟩ | ⟨hd, _⟩
  · injection hd with hd; injection hd with e1 e2; subst e1; subst e2; exact ⟨h1, h2, h3⟩
  · cases hd
theorem took_none {α : Type} {b : Nat} {w w' : World} {ret : α → Value} {e : Ending} (h : Took B b w none ret e w') : e = shortP ∧ RK b w w' := by
  rcases h with ⟨a1, t1, hd, _⟩ | ⟨_, h1, h2⟩
  · cases hd
  · exact ⟨h1, h2⟩
theorem Box5.set1 {W : World} {q : Nat} {u v0 v1 v2 v3 v4 : Value} (h : Box5 W q v0 v1 v2 v3 v4) : Box5 (W.setCell ⟨q, 1, none⟩ u) q v0 u v2 v3 v4 := ⟨(World.cell?_setCell_other _ _ _ _ (by intro e; injection e with _ e2; exact absurd e2 (by decide))).trans h.c0, World.cell?_setCell_same _ _ _ h.c1, (World.cell?_setCell_other _ _ _ _ (by intro e; injection e with _ e2; exact absurd e2 (by decide))).trans h.c2, (World.cell?_setCell_other _ _ _ _ (by intro e; injection e with _ e2; exact absurd e2 (by decide))).trans h.c3, (World.cell?_setCell_other _ _ _ _ (by intro e; injection e with _ e2; exact absurd e2 (by decide))).trans h.c4, fun o => by simpa using h.z o⟩
theorem Box5.set2 {W : World} {q : Nat} {u v0 v1 v2 v3 v4 : Value} (h : Box5 W q v0 v1 v2 v3 v4) : Box5 (W.setCell ⟨q, 2, none⟩ u) q v0 v1 u v3 v4 := ⟨(World.cell?_setCell_other _ _ _ _ (by intro e; injection e with _ e2; exact absurd e2 (by decide))).trans h.c0, (World.cell?_setCell_other _ _ _ _ (by intro e; injection e with _ e2; exact absurd e2 (by decide))).trans h.c1, World.cell?_setCell_same _ _ _ h.c2, (World.cell?_setCell_other _ _ _ _ (by intro e; injection e with _ e2; exact absurd e2 (by decide))).trans h.c3, (World.cell?_setCell_other _ _ _ _ (by intro e; injection e with _ e2; exact absurd e2 (by decide))).trans h.c4, fun o => by simpa using h.z o⟩
theorem Box5.set3 {W : World} {q : Nat} {u v0 v1 v2 v3 v4 : Value} (h : Box5 W q v0 v1 v2 v3 v4) : Box5 (W.setCell ⟨q, 3, none⟩ u) q v0 v1 v2 u v4 := ⟨(World.cell?_setCell_other _ _ _ _ (by intro e; injection e with _ e2; exact absurd e2 (by decide))).trans h.c0, (World.cell?_setCell_other _ _ _ _ (by intro e; injection e with _ e2; exact absurd e2 (by decide))).trans h.c1, (World.cell?_setCell_other _ _ _ _ (by intro e; injection e with _ e2; exact absurd e2 (by decide))).trans h.c2, World.cell?_setCell_same _ _ _ h.c3, (World.cell?_setCell_other _ _ _ _ (by intro e; injection e with _ e2; exact absurd e2 (by decide))).trans h.c4, fun o => by simpa using h.z o⟩
theorem Box5.set4 {W : World} {q : Nat} {u v0 v1 v2 v3 v4 : Value} (h : Box5 W q v0 v1 v2 v3 v4) : Box5 (W.setCell ⟨q, 4, none⟩ u) q v0 v1 v2 v3 u := ⟨(World.cell?_setCell_other _ _ _ _ (by intro e; injection e with _ e2; exact absurd e2 (by decide))).trans h.c0, (World.cell?_setCell_other _ _ _ _ (by intro e; injection e with _ e2; exact absurd e2 (by decide))).trans h.c1, (World.cell?_setCell_other _ _ _ _ (by intro e; injection e with _ e2; exact absurd e2 (by decide))).trans h.c2, (World.cell?_setCell_other _ _ _ _ (by intro e; injection e with _ e2; exact absurd e2 (by decide))).trans h.c3, World.cell?_setCell_same _ _ _ h.c4, fun o => by simpa using h.z o⟩
set_option maxRecDepth 20000 in
set_option maxHeartbeats 4000000 in
theorem rvalue_any (b : Nat) (s : List UInt8) (w : World) (h : RdAt w b B s) :
    Calls Try.prog 40 #[.pointer (some ⟨b, 0, none⟩)] w fun e w' => Took B b w (decVal s) vv e w' := by
  have hbw := h.lt
  cases s with
  | nil =>
    have HH := Lib.hid (h.below (balloc w (.cells #[.int .i64 0, .int .i64 0, .float .f64 0, .string ⟨#[]⟩, .bool false] 70))); clear h
    go_enter Try.func40, Try.ntmps40
    go_wp2_with (first | (go_at_call 21; refine (rbyte_any b [] _ HH.out).mono ?_; rintro e w1 (⟨c, t, hd, rfl, hr, hk⟩ | ⟨hd, rfl, hk⟩); (cases hd)) | fail)
    exact ⟨rfl, took_no rfl rfl ((rk_below (balloc _ _)).trans hk)⟩
  | cons c t =>
    have HH := Lib.hid (h.below (balloc w (.cells #[.int .i64 0, .int .i64 0, .float .f64 0, .string ⟨#[]⟩, .bool false] 70)))
    have HP := Lib.hid (box5_new w (.int .i64 0) (.int .i64 0) (.float .f64 0) (.string ⟨#[]⟩) (.bool false) 70)
    clear h
    go_enter Try.func40, Try.ntmps40
    go_upto_region 2 with (go_at_call 21; refine (rbyte_any b (c :: t) _ HH.out).mono ?_; rintro e w1 (⟨c1, t1, hd, rfl, hr, hk⟩ | ⟨hd, rfl, hk⟩); (injection hd with hd; injection hd with e1 e2; subst e1; subst e2); rotate_left; (cases hd))
    have hw1 : w.heap.size < w1.heap.size := Nat.lt_of_lt_of_le (by simp) hk.size
    have HBP := Lib.hid ((HP.out.rk hk (by omega)).below (balloc w1 (.cells #[.int .i64 (c.toNat : Int), .int .i64 0, .float .f64 0, .string ⟨#[]⟩, .bool false] 70)))
    have HBQ := Lib.hid (box5_new w1 (.int .i64 (c.toNat : Int)) (.int .i64 0) (.float .f64 0) (.string ⟨#[]⟩) (.bool false) 70)
    have HR1 := Lib.hid (hr.below (balloc w1 (.cells #[.int .i64 (c.toNat : Int), .int .i64 0, .float .f64 0, .string ⟨#[]⟩, .bool false] 70)))
    have HK1 := Lib.hid ((rk_below (b := b) (balloc w (.cells #[.int .i64 0, .int .i64 0, .float .f64 0, .string ⟨#[]⟩, .bool false] 70))).trans (hk.trans (rk_below (balloc w1 (.cells #[.int .i64 (c.toNat : Int), .int .i64 0, .float .f64 0, .string ⟨#[]⟩, .bool false] 70)))))
    generalize World.alloc w1 _ = W1 at *
    generalize w1.heap.size = q at *
    clear hr hk HH HP
    have hqb : q ≠ b := by omega
    have hpb : w.heap.size ≠ b := by omega
    have hpq : w.heap.size ≠ q := by omega
    obtain ⟨k, hk⟩ : ∃ k : Int, (c.toNat : Int) = k := ⟨_, rfl⟩
    rw [hk] at HBQ ⊢
    obtain ⟨y0, y1, y2, y3, y4, yz⟩ := HBQ.out
    by_cases c0 : c = 0
    · obtain rfl : k = 0 := by rw [← hk, c0]; rfl
      cases hd : decLong t with
      | none =>
        have HD := Lib.hid (show decVal (c :: t) = none from by rw [decVal_cons, if_pos c0, hd])
        go_wp2_with (first | (go_at_call 25; refine (rlong_any b t W1 HR1.out).mono ?_; rw [hd]; rintro e w2 h2; obtain ⟨rfl, hk2⟩ := took_none h2) | fail)
        exact ⟨rfl, took_no HD.out rfl (HK1.out.trans hk2)⟩
      | some pr =>
        obtain ⟨x, r⟩ := pr
        obtain ⟨I, hI⟩ : ∃ I, i64of x = I := ⟨_, rfl⟩
        have HD := Lib.hid (show decVal (c :: t) = some (⟨0, I, 0, [], false⟩, r) from by rw [decVal_cons, if_pos c0, hd, ← hI])
        have hI2 : IntKind.i64.wrap (x : Int) = I := hI
        go_wp2_with (first | (go_at_call 25; refine (rlong_any b t W1 HR1.out).mono ?_; rw [hd]; rintro e w2 h2; obtain ⟨rfl, hr2, hk2⟩ := took_some h2; have HBP2 := Lib.hid (HBP.out.rk hk2 hpb); have HBQ2 := Lib.hid (HBQ.out.rk hk2 hqb); obtain ⟨x0, x1, x2, x3, x4, xz⟩ := HBQ2.out) | (go_at_call 41; refine (vright_is ⟨0, I, 0, [], false⟩ _ true (rfl) (by simp; try omega)).mono ?_; rintro e w4 ⟨rfl, hb4⟩; have HBP4 := Lib.hid ((HBP2.out.other hpq).below hb4); obtain ⟨x0, x1, x2, x3, x4, xz⟩ := (HBQ2.out.set1).below hb4; obtain ⟨u0, u1, u2, u3, u4, uz⟩ := HBP4.out) | fail)
        have hr4 := (rd_far (o := 1) (u := (.int .i64 I)) hr2 (q := q) (by omega)).below hb4
        have hk4 := (rk_far (o := 1) (u := (.int .i64 I)) (HK1.out.trans hk2) (q := q) (by omega)).trans (rk_below hb4)
        obtain ⟨hr5, hk5⟩ := rd_put5 (q := w.heap.size) hr4 hk4 hbw (Nat.le_refl _)
        obtain ⟨e0, e1, e2, e3, e4, _⟩ := set5_at w4 w.heap.size (.int .i64 0) (.int .i64 I) (.float .f64 0) (.string ⟨#[]⟩) (.bool false) (fun j hj => by match j, hj with | 0, _ => rw [u0]; rfl | 1, _ => rw [u1]; rfl | 2, _ => rw [u2]; rfl | 3, _ => rw [u3]; rfl | 4, _ => rw [u4]; rfl)
        refine bodyPost_ret (v := vv ⟨0, I, 0, [], false⟩) (by simp [results, Try.results40, go_sem, e0, e1, e2, e3, e4]; try rfl) rfl ?_
        exact took_yes ⟨0, I, 0, [], false⟩ r HD.out rfl hr5 hk5
    have n0 : (k == 0) = false := by rw [← hk, beq_eq_false_iff_ne]; intro e; exact c0 (UInt8.toNat_inj.1 (by simpa using e))
    by_cases c1 : c = 1
    · obtain rfl : k = 1 := by rw [← hk, c1]; rfl
      cases hd : decLong t with
      | none =>
        have HD := Lib.hid (show decVal (c :: t) = none from by rw [decVal_cons, if_neg c0, if_pos c1, hd])
        go_wp2_with (first | (go_at_call 25; refine (rlong_any b t W1 HR1.out).mono ?_; rw [hd]; rintro e w2 h2; obtain ⟨rfl, hk2⟩ := took_none h2) | fail)
        exact ⟨rfl, took_no HD.out rfl (HK1.out.trans hk2)⟩
      | some pr =>
        obtain ⟨x, r⟩ := pr
        have hback := fun w => Ord.back_any x (decLong_enc hd).2 w
        have hdv : decVal (c :: t) = if (Ord.back x).2 then some (⟨1, 0, (Ord.back x).1, [], false⟩, r) else none := by rw [decVal_cons, if_neg c0, if_pos c1, hd]
        generalize Ord.back x = bk at *
        obtain ⟨X, ok⟩ := bk
        dsimp only at hback hdv
        have HBK := Lib.hid hback; clear hback
        cases ok
        · have HD := Lib.hid hdv; clear hdv
          go_wp2_with (first | (go_at_call 25; refine (rlong_any b t W1 HR1.out).mono ?_; rw [hd]; rintro e w2 h2; obtain ⟨rfl, hr2, hk2⟩ := took_some h2; have HBP2 := Lib.hid (HBP.out.rk hk2 hpb); have HBQ2 := Lib.hid (HBQ.out.rk hk2 hqb); obtain ⟨x0, x1, x2, x3, x4, xz⟩ := HBQ2.out) | (go_at_call 48; refine (HBK.out _).mono ?_; rintro e w' ⟨rfl, rfl⟩) | fail)
          exact ⟨rfl, took_no HD.out rfl (HK1.out.trans hk2)⟩
        have HD := Lib.hid hdv; clear hdv
        go_wp2_with (first | (go_at_call 25; refine (rlong_any b t W1 HR1.out).mono ?_; rw [hd]; rintro e w2 h2; obtain ⟨rfl, hr2, hk2⟩ := took_some h2; have HBP2 := Lib.hid (HBP.out.rk hk2 hpb); have HBQ2 := Lib.hid (HBQ.out.rk hk2 hqb); obtain ⟨x0, x1, x2, x3, x4, xz⟩ := HBQ2.out) | (go_at_call 48; refine (HBK.out _).mono ?_; rintro e w' ⟨rfl, rfl⟩) | (go_at_call 41; refine (vright_is ⟨1, 0, X, [], false⟩ _ true (rfl) (by simp)).mono ?_; rintro e w4 ⟨rfl, hb4⟩; have HBP4 := Lib.hid ((HBP2.out.other hpq).below hb4); obtain ⟨x0, x1, x2, x3, x4, xz⟩ := (HBQ2.out.set2).below hb4; obtain ⟨u0, u1, u2, u3, u4, uz⟩ := HBP4.out) | fail)
        have hr4 := (rd_far (o := 2) (u := (.float .f64 X)) hr2 (q := q) (by omega)).below hb4
        have hk4 := (rk_far (o := 2) (u := (.float .f64 X)) (HK1.out.trans hk2) (q := q) (by omega)).trans (rk_below hb4)
        obtain ⟨hr5, hk5⟩ := rd_put5 (q := w.heap.size) hr4 hk4 hbw (Nat.le_refl _)
        obtain ⟨e0, e1, e2, e3, e4, _⟩ := set5_at w4 w.heap.size (.int .i64 1) (.int .i64 0) (.float .f64 X) (.string ⟨#[]⟩) (.bool false) (fun j hj => by match j, hj with | 0, _ => rw [u0]; rfl | 1, _ => rw [u1]; rfl | 2, _ => rw [u2]; rfl | 3, _ => rw [u3]; rfl | 4, _ => rw [u4]; rfl)
        refine bodyPost_ret (v := vv ⟨1, 0, X, [], false⟩) (by simp [results, Try.results40, go_sem, e0, e1, e2, e3, e4]; try rfl) rfl ?_
        exact took_yes ⟨1, 0, X, [], false⟩ r HD.out rfl hr5 hk5
    have n1 : (k == 1) = false := by rw [← hk, beq_eq_false_iff_ne]; intro e; exact c1 (UInt8.toNat_inj.1 (by show c.toNat = 1; omega))
    by_cases c2 : c = 2
    · obtain rfl : k = 2 := by rw [← hk, c2]; rfl
      cases hd : decText t with
      | none =>
        have HD := Lib.hid (show decVal (c :: t) = none from by rw [decVal_cons, if_neg c0, if_neg c1, if_pos c2, hd])
        go_wp2_with (first | (go_at_call 24; refine (rtext_any b t W1 HR1.out).mono ?_; rw [hd]; rintro e w2 h2; obtain ⟨rfl, hk2⟩ := took_none h2) | fail)
        exact ⟨rfl, took_no HD.out rfl (HK1.out.trans hk2)⟩
      | some pr =>
        obtain ⟨u, r⟩ := pr
        have hul : u.length ≤ 140737488351232 := by have := (decText_enc hd).2; omega
        have hdv : decVal (c :: t) = if u.length ≤ 40 then some (⟨2, 0, 0, u, false⟩, r) else none := by rw [decVal_cons, if_neg c0, if_neg c1, if_pos c2, hd]
        by_cases hu : u.length ≤ 40
        rotate_left
        · have hvr : vRight ⟨2, 0, 0, u, false⟩ = false := by simp [vRight]; omega
          rw [if_neg hu] at hdv
          have HD := Lib.hid hdv; clear hdv
          go_wp2_with (first | (go_at_call 24; refine (rtext_any b t W1 HR1.out).mono ?_; rw [hd]; rintro e w2 h2; obtain ⟨rfl, hr2, hk2⟩ := took_some h2; have HBP2 := Lib.hid (HBP.out.rk hk2 hpb); have HBQ2 := Lib.hid (HBQ.out.rk hk2 hqb); obtain ⟨x0, x1, x2, x3, x4, xz⟩ := HBQ2.out) | (go_at_call 41; refine (vright_is ⟨2, 0, 0, u, false⟩ _ false hvr hul).mono ?_; rintro e w4 ⟨rfl, hb4⟩) | fail)
          exact ⟨rfl, took_no HD.out rfl ((rk_far (HK1.out.trans hk2) (by omega)).trans (rk_below hb4))⟩
        have hvr : vRight ⟨2, 0, 0, u, false⟩ = true := by simp [vRight]; omega
        rw [if_pos hu] at hdv
        have HD := Lib.hid hdv; clear hdv
        go_wp2_with (first | (go_at_call 24; refine (rtext_any b t W1 HR1.out).mono ?_; rw [hd]; rintro e w2 h2; obtain ⟨rfl, hr2, hk2⟩ := took_some h2; have HBP2 := Lib.hid (HBP.out.rk hk2 hpb); have HBQ2 := Lib.hid (HBQ.out.rk hk2 hqb); obtain ⟨x0, x1, x2, x3, x4, xz⟩ := HBQ2.out) | (go_at_call 41; refine (vright_is ⟨2, 0, 0, u, false⟩ _ true (hvr) (hul)).mono ?_; rintro e w4 ⟨rfl, hb4⟩; have HBP4 := Lib.hid ((HBP2.out.other hpq).below hb4); obtain ⟨x0, x1, x2, x3, x4, xz⟩ := (HBQ2.out.set3).below hb4; obtain ⟨u0, u1, u2, u3, u4, uz⟩ := HBP4.out) | fail)
        have hr4 := (rd_far (o := 3) (u := (.string ⟨u.toArray⟩)) hr2 (q := q) (by omega)).below hb4
        have hk4 := (rk_far (o := 3) (u := (.string ⟨u.toArray⟩)) (HK1.out.trans hk2) (q := q) (by omega)).trans (rk_below hb4)
        obtain ⟨hr5, hk5⟩ := rd_put5 (q := w.heap.size) hr4 hk4 hbw (Nat.le_refl _)
        obtain ⟨e0, e1, e2, e3, e4, _⟩ := set5_at w4 w.heap.size (.int .i64 2) (.int .i64 0) (.float .f64 0) (.string ⟨u.toArray⟩) (.bool false) (fun j hj => by match j, hj with | 0, _ => rw [u0]; rfl | 1, _ => rw [u1]; rfl | 2, _ => rw [u2]; rfl | 3, _ => rw [u3]; rfl | 4, _ => rw [u4]; rfl)
        refine bodyPost_ret (v := vv ⟨2, 0, 0, u, false⟩) (by simp [results, Try.results40, go_sem, e0, e1, e2, e3, e4]; try rfl) rfl ?_
        exact took_yes ⟨2, 0, 0, u, false⟩ r HD.out rfl hr5 hk5
    have n2 : (k == 2) = false := by rw [← hk, beq_eq_false_iff_ne]; intro e; exact c2 (UInt8.toNat_inj.1 (by show c.toNat = 2; omega))
    by_cases c3 : c = 3
    · obtain rfl : k = 3 := by rw [← hk, c3]; rfl
      cases hd : decByte t with
      | none =>
        have ht : t = [] := by cases t with | nil => rfl | cons x y => cases hd
        have HD := Lib.hid (show decVal (c :: t) = none from by rw [decVal_cons, if_neg c0, if_neg c1, if_neg c2, if_pos c3, ht])
        go_wp2_with (first | (go_at_call 21; refine (rbyte_any b t W1 HR1.out).mono ?_; rw [hd]; rintro e w2 h2; obtain ⟨rfl, hk2⟩ := took_none h2) | fail)
        exact ⟨rfl, took_no HD.out rfl (HK1.out.trans hk2)⟩
      | some pr =>
        obtain ⟨d, r⟩ := pr
        have ht : t = d :: r := by
          cases t with
          | nil => cases hd
          | cons x y => injection hd with hd; injection hd with e1 e2; rw [e1, e2]
        have hdv : decVal (c :: t) = if d.toNat ≤ 1 then some (⟨3, 0, 0, [], d == 1⟩, r) else none := by rw [decVal_cons, if_neg c0, if_neg c1, if_neg c2, if_pos c3, ht]
        by_cases hu : d.toNat ≤ 1
        rotate_left
        · have i1 : (1 : Int) < (d.toNat : Int) := by omega
          rw [if_neg hu] at hdv
          have HD := Lib.hid hdv; clear hdv
          go_wp2_with (first | (go_at_call 21; refine (rbyte_any b t W1 HR1.out).mono ?_; rw [hd]; rintro e w2 h2; obtain ⟨rfl, hr2, hk2⟩ := took_some h2; have HBP2 := Lib.hid (HBP.out.rk hk2 hpb); have HBQ2 := Lib.hid (HBQ.out.rk hk2 hqb); obtain ⟨x0, x1, x2, x3, x4, xz⟩ := HBQ2.out) | fail)
          exact ⟨rfl, took_no HD.out rfl (HK1.out.trans hk2)⟩
        have i1 : ¬ (1 : Int) < (d.toNat : Int) := by omega
        obtain ⟨Y, hY⟩ : ∃ Y, (d == 1) = Y := ⟨_, rfl⟩
        have hY2 : ((d.toNat : Int) == 1) = Y := by
          rw [← hY, Bool.eq_iff_iff, beq_iff_eq, beq_iff_eq]
          constructor
          · intro e; exact UInt8.toNat_inj.1 (by show d.toNat = 1; omega)
          · intro e; rw [e]; rfl
        rw [if_pos hu, hY] at hdv
        have HD := Lib.hid hdv; clear hdv
        go_wp2_with (first | (go_at_call 21; refine (rbyte_any b t W1 HR1.out).mono ?_; rw [hd]; rintro e w2 h2; obtain ⟨rfl, hr2, hk2⟩ := took_some h2; have HBP2 := Lib.hid (HBP.out.rk hk2 hpb); have HBQ2 := Lib.hid (HBQ.out.rk hk2 hqb); obtain ⟨x0, x1, x2, x3, x4, xz⟩ := HBQ2.out) | (go_at_call 41; refine (vright_is ⟨3, 0, 0, [], Y⟩ _ true (rfl) (by simp)).mono ?_; rintro e w4 ⟨rfl, hb4⟩; have HBP4 := Lib.hid ((HBP2.out.other hpq).below hb4); obtain ⟨x0, x1, x2, x3, x4, xz⟩ := (HBQ2.out.set4).below hb4; obtain ⟨u0, u1, u2, u3, u4, uz⟩ := HBP4.out) | fail)
        have hr4 := (rd_far (o := 4) (u := (.bool Y)) hr2 (q := q) (by omega)).below hb4
        have hk4 := (rk_far (o := 4) (u := (.bool Y)) (HK1.out.trans hk2) (q := q) (by omega)).trans (rk_below hb4)
        obtain ⟨hr5, hk5⟩ := rd_put5 (q := w.heap.size) hr4 hk4 hbw (Nat.le_refl _)
        obtain ⟨e0, e1, e2, e3, e4, _⟩ := set5_at w4 w.heap.size (.int .i64 3) (.int .i64 0) (.float .f64 0) (.string ⟨#[]⟩) (.bool Y) (fun j hj => by match j, hj with | 0, _ => rw [u0]; rfl | 1, _ => rw [u1]; rfl | 2, _ => rw [u2]; rfl | 3, _ => rw [u3]; rfl | 4, _ => rw [u4]; rfl)
        refine bodyPost_ret (v := vv ⟨3, 0, 0, [], Y⟩) (by simp [results, Try.results40, go_sem, e0, e1, e2, e3, e4]; try rfl) rfl ?_
        exact took_yes ⟨3, 0, 0, [], Y⟩ r HD.out rfl hr5 hk5
    · have n3 : (k == 3) = false := by rw [← hk, beq_eq_false_iff_ne]; intro e; exact c3 (UInt8.toNat_inj.1 (by show c.toNat = 3; omega))
      have HD := Lib.hid (show decVal (c :: t) = none from by rw [decVal_cons, if_neg c0, if_neg c1, if_neg c2, if_neg c3])
      go_wp2_with fail
      exact ⟨rfl, took_no HD.out rfl HK1.out⟩
end Go.Proofs.Ytpbdgbejcdncgaa.Wire
end

section
/- A READER OF BYTES: a filter. -/
namespace Go.Proofs.Ytpbdgbejcdncgaa.Wire
open Go.RowKit Flt Go.Proofs.Ytpbdgbejcdncgaa.Val Go.Lib
variable {B : Nat}
attribute [local go_sem] run_store_flt
def decCond (s : List UInt8) : Option (C × List UInt8) := match decText s with
  | none => none
  | some (nm, t) => match decByte t with
    | none => none
    | some (c, t2) => match decVal t2 with
      | none => none
      | some (v, r) => some (⟨nm, (c.toNat : Int), v⟩, r)
def decFilter (s : List UInt8) : Option ((List UInt8 × List C) × List UInt8) := match decText s with
  | none => none
  | some (sf, t) => match decByte t with
    | none => none
    | some (c, t2) => match decMany decCond c.toNat t2 with
      | none => none
      | some (l, r) => some ((sf, l), r)
def cells7W (c : C) : List Value := [.string ⟨c.name.toArray⟩, .int .i64 c.op, .int .i64 c.val.kind, .int .i64 c.val.int, .float .f64 c.val.num, .string ⟨c.val.text.toArray⟩, .bool c.val.yes]
def flatW (l : List C) : List Value := l.flatMap cells7W
theorem flatW_at : ∀ (l : List C) (i j : Nat) (hi : i < l.length), j < 7 → (flatW l)[i * 7 + j]? = (cells7W l[i])[j]?
  | v :: l, 0, j, _, hj => by
    unfold flatW; rw [List.flatMap_cons, List.getElem?_append_left (by simp [cells7W]; omega)]; simp
  | v :: l, i + 1, j, hi, hj => by
    unfold flatW; rw [List.flatMap_cons, List.getElem?_append_right (by simp [cells7W]; omega)]
    have e : (i + 1) * 7 + j - (cells7W v).length = i * 7 + j := by simp [cells7W]; omega
    rw [e]
    exact flatW_at l i j (by simpa using hi) hj
theorem flatW_one (l : List C) : ∀ u ∈ flatW l, u.oneCell' = true := by
  intro u hu
  obtain ⟨v, _, hv⟩ := List.mem_flatMap.1 hu
  simp only [cells7W, List.mem_cons, List.not_mem_nil, or_false] at hv
  rcases hv with rfl | rfl | rfl | rfl | rfl | rfl | rfl <;> rfl
theorem cond_none1 {s : List UInt8} (h : decText s = none) : decCond s = none := by unfold decCond; rw [h]
theorem cond_none2 {s t nm : List UInt8} (h : decText s = some (nm, t)) (h2 : decByte t = none) : decCond s = none := by unfold decCond; rw [h]; dsimp only; rw [h2]
theorem cond_none3 {s t nm t2 : List UInt8} {c : UInt8} (h : decText s = some (nm, t)) (h2 : decByte t = some (c, t2)) (h3 : decVal t2 = none) : decCond s = none := by unfold decCond; rw [h]; dsimp only; rw [h2]; dsimp only; rw [h3]
theorem cond_some {s t nm t2 r : List UInt8} {c : UInt8} {v : V} (h : decText s = some (nm, t)) (h2 : decByte t = some (c, t2)) (h3 : decVal t2 = some (v, r)) : decCond s = some (⟨nm, (c.toNat : Int), v⟩, r) := by unfold decCond; rw [h]; dsimp only; rw [h2]; dsimp only; rw [h3]
theorem many_next {α : Type} {f : List UInt8 → Option (α × List UInt8)} {n k : Nat} {s rest r : List UInt8} {l : List α} {a : α} (hk : k < n) (h : decMany f n s = (decMany f (n - k) rest).map fun p => (l ++ p.1, p.2)) (h2 : f rest = some (a, r)) :
    decMany f n s = (decMany f (n - (k + 1)) r).map fun p => ((l ++ [a]) ++ p.1, p.2) := by
  rw [h, show n - k = (n - (k + 1)) + 1 from by omega]
  show Option.map _ (match f rest with | none => none | some (a, t) => match decMany f (n - (k + 1)) t with | none => none | some (l, r) => some (a :: l, r)) = _
  rw [h2]
  dsimp only
  cases decMany f (n - (k + 1)) r with
  | none => rfl
  | some p => simp
theorem many_stop {α : Type} {f : List UInt8 → Option (α × List UInt8)} {n k : Nat} {s rest : List UInt8} {l : List α} (hk : k < n) (h : decMany f n s = (decMany f (n - k) rest).map fun p => (l ++ p.1, p.2)) (h2 : f rest = none) :
    decMany f n s = none := by
  rw [h, show n - k = (n - (k + 1)) + 1 from by omega]
  show Option.map _ (match f rest with | none => none | some (a, t) => match decMany f (n - (k + 1)) t with | none => none | some (l, r) => some (a :: l, r)) = _
  rw [h2]
  rfl
theorem many_end {α : Type} {f : List UInt8 → Option (α × List UInt8)} {n : Nat} {s rest : List UInt8} {l : List α} (h : decMany f n s = (decMany f (n - n) rest).map fun p => (l ++ p.1, p.2)) : decMany f n s = some (l, rest) := by
  rw [h, Nat.sub_self]
  show some (l ++ [], rest) = _
  rw [List.append_nil]
theorem drew0 (w : World) : Below w.heap.size w w.drew := (Below.refl _ _).trans ⟨rfl, rfl, rfl, Nat.le_refl _, fun _ _ => rfl⟩
theorem info_condW : (Try.prog.info? 72).map (fun i => (i.zero, i.size, i.bytes)) = some (some (.agg #[.string .empty, .int .i64 0, .int .i64 0, .int .i64 0, .float .f64 0, .string .empty, .bool false]), 7, 72) := by kernel_rfl
theorem new_condW (w : World) (c : C) (e : TypeId) : ∀ j u, (flatW [c])[j]? = some u → (w.alloc (.cells #[.string ⟨c.name.toArray⟩, .int .i64 c.op, .int .i64 c.val.kind, .int .i64 c.val.int, .float .f64 c.val.num, .string ⟨c.val.text.toArray⟩, .bool c.val.yes] e)).cell? ((⟨w.heap.size, 0, none⟩ : Addr).add j) = some u := by
  intro j u hj
  have hadd : (⟨w.heap.size, 0, none⟩ : Addr).add j = ⟨w.heap.size, j, none⟩ := by unfold Addr.add; split <;> simp_all
  rw [hadd, World.cell?_alloc_at _ _ _ _ rfl]
  simpa [flatW, cells7W] using hj
theorem own_condsW {w : World} {v : Value} {l : List C} {base : Nat} (h : w.ownsRow base 72 7 v l.length (flatW l)) :
    ∃ a0 cap, v = .slice a0 l.length cap ∧ l.length ≤ cap ∧ (a0 = none → cap = 0) ∧ Conds w a0 l ∧ (∀ a, a0 = some a → base ≤ a.block) := by
  rcases h.2 with ⟨rfl, h0⟩ | ⟨g, cp, cur, rfl, hb, _, hn, _⟩
  · have : l = [] := List.eq_nil_of_length_eq_zero h0
    subst this
    exact ⟨none, 0, rfl, Nat.le_refl _, fun _ => rfl, fun i hi => absurd hi (Nat.not_lt_zero _), fun a e => by cases e⟩
  · refine ⟨some ⟨g, 0, none⟩, cp, rfl, hn, fun e => (by cases e), fun i hi => ⟨_, rfl, ?_⟩, fun a e => by injection e with e; rw [← e]; exact hb⟩
    have k : ∀ j (hj : j < 7), w.cell? ⟨g, i * 7 + j, none⟩ = (cells7W l[i])[j]? := by
      intro j hj
      have hm := flatW_at l i j hi hj
      have hc : (cells7W l[i])[j]? = some ((cells7W l[i])[j]'(by simpa [cells7W] using hj)) := by simp
      rw [hc] at hm ⊢
      have := h.cells rfl (i * 7 + j) _ hm
      have hadd : (⟨g, 0, none⟩ : Addr).add (i * 7 + j) = ⟨g, i * 7 + j, none⟩ := by unfold Addr.add; split <;> simp_all
      rw [← hadd]; exact this
    have hadd : (⟨g, 0, none⟩ : Addr).add (i * 7) = ⟨g, i * 7, none⟩ := by unfold Addr.add; split <;> simp_all
    rw [hadd]
    exact ⟨k 0 (by omega), k 1 (by omega), k 2 (by omega), k 3 (by omega), k 4 (by omega), k 5 (by omega), k 6 (by omega)⟩
/-- a filter under way: its box at q, its row -/
structure FS (B : Nat) (w D : World) (b q : Nat) (sf : List UInt8) (v : Value) (l : List C) (r : List UInt8) : Prop where
  rd : RdAt D b B r
  rk : RK b w D
  c0 : D.cell? ⟨q, 0, none⟩ = some (.string ⟨sf.toArray⟩)
  c1 : D.cell? ⟨q, 1, none⟩ = some v
  z : ∀ o, D.frozen? ⟨q, o, none⟩ = false
  own : D.ownsRow (q + 1) 72 7 v l.length (flatW l)
  p0 : D.cell? ⟨w.heap.size, 0, none⟩ = some (.string ⟨#[]⟩)
  p1 : D.cell? ⟨w.heap.size, 1, none⟩ = some (.slice none 0 0)
  pz : ∀ o, D.frozen? ⟨w.heap.size, o, none⟩ = false
  qw : w.heap.size < q
  bw : b < w.heap.size
theorem FS.cells {w D : World} {b q : Nat} {sf : List UInt8} {v : Value} {l : List C} {r : List UInt8} (h : FS B w D b q sf v l r) : D.cell? ⟨q, 0, none⟩ = some (.string ⟨sf.toArray⟩) ∧ D.cell? ⟨q, 1, none⟩ = some v ∧ D.frozen? ⟨q, 1, none⟩ = false := ⟨h.c0, h.c1, h.z 1⟩
theorem FS.qlt {w D : World} {b q : Nat} {sf : List UInt8} {v : Value} {l : List C} {r : List UInt8} (h : FS B w D b q sf v l r) : q < D.heap.size := World.block_lt_of_cell? _ _ h.c0
theorem own_rk {D D2 : World} {b base e size n : Nat} {v : Value} {xs : List Value} (h : D.ownsRow base e size v n xs) (hk : RK b D D2) (hb : b < base) : D2.ownsRow base e size v n xs := by
  have hv := fun k hk => h.lt k hk
  refine ⟨h.1, ?_⟩
  rcases h.2 with hn | ⟨g2, cap, cur, rfl, hb2, hgg, rest⟩
  · exact .inl hn
  · refine .inr ⟨g2, cap, cur, rfl, hb2, ?_, rest⟩
    rw [hk.block g2 (hv g2 (by simp [Value.ownBlock])).2 (by omega)]
    exact hgg
theorem FS.rk2 {w D D2 : World} {b q : Nat} {sf : List UInt8} {v : Value} {l : List C} {r r2 : List UInt8} (h : FS B w D b q sf v l r) (hk : RK b D D2) (hr : RdAt D2 b B r2) : FS B w D2 b q sf v l r2 := by
  have hq := h.qlt
  have hne : q ≠ b := by have := h.qw; have := h.bw; omega
  have hpb : w.heap.size ≠ b := by have := h.bw; omega
  have hpd : w.heap.size < D.heap.size := World.block_lt_of_cell? _ _ h.p0
  exact ⟨hr, h.rk.trans hk, (hk.cell (p := ⟨q, 0, none⟩) hq hne).trans h.c0, (hk.cell (p := ⟨q, 1, none⟩) hq hne).trans h.c1, fun o => (hk.frozen (p := ⟨q, o, none⟩) hq hne).trans (h.z o), own_rk h.own hk (by have := h.qw; have := h.bw; omega), (hk.cell (p := ⟨w.heap.size, 0, none⟩) hpd hpb).trans h.p0, (hk.cell (p := ⟨w.heap.size, 1, none⟩) hpd hpb).trans h.p1, fun o => (hk.frozen (p := ⟨w.heap.size, o, none⟩) hpd hpb).trans (h.pz o), h.qw, h.bw⟩
theorem FS.below {w D D2 : World} {b q : Nat} {sf : List UInt8} {v : Value} {l : List C} {r : List UInt8} (h : FS B w D b q sf v l r) (hb : Below D.heap.size D D2) : FS B w D2 b q sf v l r :=
  h.rk2 (rk_below hb) (h.rd.below hb)
/-- behind the append, and the store -/
theorem FS.put {w D D2 : World} {b q g cap : Nat} {sf : List UInt8} {v : Value} {l : List C} {c : C} {r : List UInt8} (h : FS B w D b q sf v l r) (hown : D2.ownsRow (q + 1) 72 7 (.slice (some ⟨g, 0, none⟩) (l.length + 1) cap) (l.length + 1) (flatW l ++ flatW [c])) (hgrow : D.grownBy D2 v.ownBlock) :
    (D2.cell? ⟨q, 1, none⟩ = some v ∧ D2.frozen? ⟨q, 1, none⟩ = false) ∧ FS B w (D2.setCell ⟨q, 1, none⟩ (.slice (some ⟨g, 0, none⟩) (l.length + 1) cap)) b q sf (.slice (some ⟨g, 0, none⟩) (l.length + 1) cap) (l ++ [c]) r := by
  have hq := h.qlt
  have hrow : ∀ k, v.ownBlock = some k → q + 1 ≤ k := fun k hk => (h.own.lt k hk).1
  have hne : some q ≠ v.ownBlock := fun e => by have := hrow q e.symm; omega
  have hc0 := (hgrow.cell_far ⟨q, 0, none⟩ hq hne).trans h.c0
  have hc1 := (hgrow.cell_far ⟨q, 1, none⟩ hq hne).trans h.c1
  have hz := fun o => (hgrow.frozen_far ⟨q, o, none⟩ hq hne).trans (h.z o)
  have hbw := h.bw
  have hqw := h.qw
  have hbel : Below (q + 1) D D2 := Below.grown (Below.refl _ _) hgrow (by omega) hrow
  have hpd : w.heap.size < D.heap.size := World.block_lt_of_cell? _ _ h.p0
  have hpne : some w.heap.size ≠ v.ownBlock := fun e => by have := hrow _ e.symm; omega
  have hfar : ∀ o u, (D2.setCell ⟨q, 1, none⟩ u).cell? ⟨w.heap.size, o, none⟩ = D2.cell? ⟨w.heap.size, o, none⟩ := fun o u => World.cell?_setCell_other _ _ _ _ (by intro e; injection e with e1; omega)
  refine ⟨⟨hc1, hz 1⟩, ?_, ?_, ?_, ?_, ?_, ?_, (hfar 0 _).trans ((hgrow.cell_far ⟨w.heap.size, 0, none⟩ hpd hpne).trans h.p0), (hfar 1 _).trans ((hgrow.cell_far ⟨w.heap.size, 1, none⟩ hpd hpne).trans h.p1), fun o => by simpa using (hgrow.frozen_far ⟨w.heap.size, o, none⟩ hpd hpne).trans (h.pz o), hqw, hbw⟩
  · exact rd_far (h.rd.low (hbel.mono (by omega))) (by omega)
  · exact rk_far ⟨hgrow.os.trans h.rk.os, hgrow.tape.trans h.rk.tape, hgrow.output.trans h.rk.output, Nat.le_trans h.rk.size hgrow.size, fun p hp hne2 => (hgrow.block p (Nat.lt_of_lt_of_le hp h.rk.size) (fun e => by have := hrow p e.symm; omega)).trans (h.rk.block p hp hne2)⟩ (Nat.le_of_lt hqw)
  · exact (World.cell?_setCell_other _ _ _ _ (by intro e; injection e with _ e2; exact absurd e2 (by decide))).trans hc0
  · exact World.cell?_setCell_same _ _ _ hc1
  · intro o; simpa using hz o
  · have := ownsRow_setCell_below hown (a := ⟨q, 1, none⟩) (Nat.lt_succ_self q) (.slice (some ⟨g, 0, none⟩) (l.length + 1) cap)
    simpa [flatW] using this
theorem conds_keep {W W2 : World} {a0 : Option Addr} {l : List C} (h : Conds W a0 l) (hk : ∀ a, a0 = some a → ∀ p : Addr, p.block = a.block → p.block < W.heap.size → W2.cell? p = W.cell? p) : Conds W2 a0 l := by
  intro i hi
  obtain ⟨a, e, h0, h1, h2, h3, h4, h5, h6⟩ := h i hi
  have hab : (a.add (i * 7)).block = a.block := by unfold Addr.add; split <;> rfl
  have k := fun {p : Addr} {v : Value} (hp : p.block = a.block) (hc : W.cell? p = some v) => (hk a e p hp (World.block_lt_of_cell? _ _ hc)).trans hc
  exact ⟨a, e, k hab h0, k hab h1, k hab h2, k hab h3, k hab h4, k hab h5, k hab h6⟩
theorem set2W (W : World) (p : Nat) (v0 v1 : Value) (h0 : (W.cell? ⟨p, 0, none⟩).isSome = true) (h1 : (W.cell? ⟨p, 1, none⟩).isSome = true) :
    ((W.setCell ⟨p, 0, none⟩ v0).setCell ⟨p, 1, none⟩ v1).cell? ⟨p, 0, none⟩ = some v0 ∧ ((W.setCell ⟨p, 0, none⟩ v0).setCell ⟨p, 1, none⟩ v1).cell? ⟨p, 1, none⟩ = some v1 := by
  have e := World.cell?_setCells_in p [v0, v1] 0 W (fun j hj => by
    rw [Nat.zero_add]
    match j, hj with
    | 0, _ => exact h0
    | 1, _ => exact h1)
  exact ⟨e 0 (by simp), e 1 (by simp)⟩
/-- what reading a filter tells -/
def TookF (B b : Nat) (w : World) (s : List UInt8) (e : Ending) (w' : World) : Prop :=
  (∃ (sf : List UInt8) (l : List C) (rest : List UInt8) (c0 : Option Addr) (cap : Nat), decFilter s = some ((sf, l), rest) ∧ e = .returned (ev sf c0 l.length cap) ∧ l.length ≤ cap ∧ Conds w' c0 l ∧ (∀ a, c0 = some a → w.heap.size ≤ a.block) ∧ (c0 = none → cap = 0) ∧ RdAt w' b B rest ∧ RK b w w') ∨ (decFilter s = none ∧ e = shortP ∧ RK b w w')
theorem tookf_no {b : Nat} {w w' : World} {s : List UInt8} {e : Ending} (h1 : decFilter s = none) (h2 : e = shortP) (h3 : RK b w w') : TookF B b w s e w' := .inr ⟨h1, h2, h3⟩
theorem filter_none {s t sf t2 : List UInt8} {c : UInt8} (h : decText s = some (sf, t)) (h2 : decByte t = some (c, t2)) (h3 : decMany decCond c.toNat t2 = none) : decFilter s = none := by unfold decFilter; rw [h]; dsimp only; rw [h2]; dsimp only; rw [h3]
set_option maxRecDepth 20000 in
set_option maxHeartbeats 8000000 in
theorem rfilter_any (b : Nat) (s : List UInt8) (w : World) (h : RdAt w b B s) :
    Calls Try.prog 23 #[.pointer (some ⟨b, 0, none⟩)] w fun e w' => TookF B b w s e w' := by
  have hbw := h.lt
  have HH := Lib.hid (h.below (balloc w (.cells #[.string ⟨#[]⟩, .slice none 0 0] 26))); clear h
  obtain ⟨i0, hi, hz0, hz1, hz2⟩ := info_parts info_condW
  go_enter Try.func23, Try.ntmps23
  go_wp2_with (first | (go_at_call 24; refine (rtext_any b s _ HH.out).mono ?_; rintro e w1 (⟨sf, t, hd, rfl, hr, hk⟩ | ⟨hd, rfl, hk⟩)) | (go_at_call 21; refine (rbyte_any b t _ (hr.below (balloc _ _))).mono ?_; rintro e w2 (⟨c, t2, hd2, rfl, hr2, hk2⟩ | ⟨hd2, rfl, hk2⟩)) | fail)
  rotate_left
  · exact ⟨rfl, tookf_no (by unfold decFilter; rw [hd]; dsimp only; rw [hd2]) rfl ((rk_below (balloc w _)).trans (hk.trans ((rk_below (balloc w1 _)).trans hk2)))⟩
  · exact ⟨rfl, tookf_no (by unfold decFilter; rw [hd]) rfl ((rk_below (balloc w _)).trans hk)⟩
  have hpw1 : w.heap.size < w1.heap.size := Nat.lt_of_lt_of_le (by simp) hk.size
  have hf0 : FS B w w2 b w1.heap.size sf (.slice none 0 0) [] t2 := by
    have hpa : ∀ o, w2.cell? ⟨w.heap.size, o, none⟩ = #[Value.string ⟨#[]⟩, .slice none 0 0][o]? := fun o => by
      rw [hk2.cell (p := ⟨w.heap.size, o, none⟩) (by simp; omega) (by simp; omega), World.cell?_alloc_lt _ _ _ hpw1, hk.cell (p := ⟨w.heap.size, o, none⟩) (by simp) (by simp; omega)]
      exact World.cell?_alloc_at _ _ _ _ rfl
    have hpz : ∀ o, w2.frozen? ⟨w.heap.size, o, none⟩ = false := fun o => by
      rw [hk2.frozen (p := ⟨w.heap.size, o, none⟩) (by simp; omega) (by simp; omega), World.frozen?_alloc_old w1 _ ⟨w.heap.size, o, none⟩ (Nat.ne_of_lt hpw1), hk.frozen (p := ⟨w.heap.size, o, none⟩) (by simp) (by simp; omega)]
      simp
    have hqa : ∀ o, w2.cell? ⟨w1.heap.size, o, none⟩ = #[Value.string ⟨sf.toArray⟩, .slice none 0 0][o]? := fun o => by
      rw [hk2.cell (p := ⟨w1.heap.size, o, none⟩) (by simp) (by simp; omega)]
      exact World.cell?_alloc_at _ _ _ _ rfl
    have hqz : ∀ o, w2.frozen? ⟨w1.heap.size, o, none⟩ = false := fun o => by
      rw [hk2.frozen (p := ⟨w1.heap.size, o, none⟩) (by simp) (by simp; omega)]
      simp
    exact ⟨hr2, (rk_below (balloc w _)).trans (hk.trans ((rk_below (balloc w1 _)).trans hk2)), hqa 0, hqa 1, hqz, World.ownsRow_nil _ _ _ _, hpa 0, hpa 1, hpz, hpw1, hbw⟩
  have HF0 := Lib.hid hf0
  clear hf0 hr hr2 hk hk2 HH
  generalize w1.heap.size = q at *
  have hc8 : c.toNat < 256 := c.toNat_lt
  have hdf : ∀ l r, decMany decCond c.toNat t2 = some (l, r) → decFilter s = some ((sf, l), r) := fun l r h => by unfold decFilter; rw [hd]; dsimp only; rw [hd2]; dsimp only; rw [h]
  have hdn := fun h => filter_none hd hd2 h
  have HDF := Lib.hid hdf; have HDN := Lib.hid hdn
  clear hdf hdn hd hd2
  generalize c.toNat = n at *
  generalize w2 = WE at *
  go_loopw [9] (fun vi wr => ∃ (k : Nat) (v : Value) (l : List C) (rest : List UInt8), k ≤ n ∧ vi = .int .i64 k ∧ l.length = k ∧ Hid (decMany decCond n t2 = (decMany decCond (n - k) rest).map fun p => (l ++ p.1, p.2)) ∧ Hid (FS B w wr b q sf v l rest)) (fun vi _ => n - (RowKit.intOf vi).toNat)
  case atStart => exact ⟨0, _, [], t2, Nat.zero_le _, rfl, rfl, Lib.hid (by simp), HF0⟩
  case round =>
    obtain ⟨k, v, l, rest, hk, rfl, hlk, HM, HF⟩ := hrel
    subst hlk
    by_cases hlt : l.length < n
    · have i1 : (l.length : Int) < (n : Int) := by omega
      go_upto_region 4 with fail
      clear HDF hbw
      refine wp_region_held_drew (S := fun _ => True) (by kernel_rfl) trivial (fun hq0 => ?_)
      replace HF := Lib.hid (HF.out.below (drew0 wr))
      generalize wr.drew = D0 at *
      (refine wpAnyH_take (i := 0) (oi := ?_) (v := ?_) ?_ (by kernel_rfl) (by kernel_rfl) (by kernel_rfl) ?_ (Or.inl ⟨?_, ?_⟩) (by assumption) ?_; rotate_left 2; (· (simp only [List.getElem?_toArray, List.getElem?_cons_zero]; first | done | rfl)); (· exact (fun _ _ _ h => h)); (· rfl); (· (intro w hSw; (try dsimp only at hSw); go_simp; (try with_reducible rfl))))
      (try simp only [Act.put, List.setIfInBounds_toArray, List.set_cons_zero, List.set_cons_succ])
      (refine wpAnyH_take (i := 2) (oi := ?_) (v := ?_) ?_ (by kernel_rfl) (by kernel_rfl) (by kernel_rfl) ?_ (Or.inl ⟨?_, ?_⟩) (by assumption) ?_; rotate_left 2; (· (simp only [List.getElem?_toArray, List.getElem?_cons_succ, List.getElem?_cons_zero]; first | done | rfl)); (· exact (fun _ _ _ h => h)); (· rfl); (· (intro w hSw; (try dsimp only at hSw); go_simp; (try with_reducible rfl))))
      (try simp only [Act.put, List.setIfInBounds_toArray, List.set_cons_zero, List.set_cons_succ])
      (refine wpAnyH_take (i := 4) (oi := ?_) (v := ?_) ?_ (by kernel_rfl) (by kernel_rfl) (by kernel_rfl) ?_ (Or.inl ⟨?_, ?_⟩) (by assumption) ?_; rotate_left 2; (· (simp only [List.getElem?_toArray, List.getElem?_cons_succ, List.getElem?_cons_zero]; first | done | rfl)); (· exact (fun _ _ _ h => h)); (· rfl); (· (intro w hSw; (try dsimp only at hSw); go_simp; (try with_reducible rfl))))
      (try simp only [Act.put, List.setIfInBounds_toArray, List.set_cons_zero, List.set_cons_succ])
      (refine wpAnyH_take (i := 6) (oi := ?_) (v := ?_) ?_ (by kernel_rfl) (by kernel_rfl) (by kernel_rfl) ?_ (Or.inl ⟨?_, ?_⟩) (by assumption) ?_; rotate_left 2; (· (simp only [List.getElem?_toArray, List.getElem?_cons_succ, List.getElem?_cons_zero]; first | done | rfl)); (· exact (fun _ _ _ h => h)); (· rfl); (· (intro w hSw; (try dsimp only at hSw); go_simp; (try with_reducible rfl))))
      (try simp only [Act.put, List.setIfInBounds_toArray, List.set_cons_zero, List.set_cons_succ])
      refine wpAnyH_ready (rs := [1, 3]) (by kernel_rfl) (by simp) ?_
      refine AllReadyH.cons (o := ?_) ?_ (fun K hK => ?_) ?_
      rotate_left 1
      · (simp only [List.getElem?_toArray, List.getElem?_cons_succ, List.getElem?_cons_zero]; first | done | rfl)
      rotate_left 1
      refine AllReadyH.cons (o := ?_) ?_ (fun K hK => ?_) AllReadyH.nil
      rotate_left 1
      · (simp only [List.getElem?_toArray, List.getElem?_cons_succ, List.getElem?_cons_zero]; first | done | rfl)
      rotate_left 1
      · skip
        obtain ⟨f0, f1, f2⟩ := HF.out.cells
        go_simp
        first | (refine hK.out _ _ trivial (fun hq1 => ?_)) | (go_wp2_with fail; refine hK.out _ _ trivial (fun hq1 => ?_))
        clear hK K
        (try simp only [Act.put, List.setIfInBounds_toArray, List.set_cons_zero, List.set_cons_succ])
        clear hq0
        clear f0 f1 f2
        refine wpAnyH_ready (rs := [3]) (by kernel_rfl) (by simp) ?_
        refine AllReadyH.cons (o := ?_) ?_ (fun K hK => ?_) AllReadyH.nil
        rotate_left 1
        · (simp only [List.getElem?_toArray, List.getElem?_cons_succ, List.getElem?_cons_zero]; first | done | rfl)
        go_simp
        go_at_call 24
        refine (rtext_any b _ D0 HF.out.rd).mono ?_
        rintro e D1 (⟨nm, t1, hd3, rfl, hr, hk⟩ | ⟨hd, rfl, hk⟩)
        rotate_left
        · clear hK
          go_wp2_with fail
          exact ⟨rfl, tookf_no (HDN.out (many_stop hlt HM.out (cond_none1 hd))) rfl (HF.out.rk.trans hk)⟩
        first | (refine hK.out _ _ trivial (fun hq2 => ?_)) | (go_wp2_with fail; refine hK.out _ _ trivial (fun hq2 => ?_))
        clear hK K
        clear hq1
        replace HF := Lib.hid (HF.out.rk2 hk hr)
        clear hk hr
        refine wpAnyH_ready (rs := [5]) (by kernel_rfl) (by simp) ?_
        refine AllReadyH.cons (o := ?_) ?_ (fun K hK => ?_) AllReadyH.nil
        rotate_left 1
        · (simp only [List.getElem?_toArray, List.getElem?_cons_succ, List.getElem?_cons_zero]; first | done | rfl)
        go_simp
        go_at_call 21
        refine (rbyte_any b _ D1 HF.out.rd).mono ?_
        rintro e D2 (⟨c3, t5, hd5, rfl, hr, hk⟩ | ⟨hd, rfl, hk⟩)
        rotate_left
        · clear hK
          go_wp2_with fail
          exact ⟨rfl, tookf_no (HDN.out (many_stop hlt HM.out (cond_none2 hd3 hd))) rfl (HF.out.rk.trans hk)⟩
        first | (refine hK.out _ _ trivial (fun hq3 => ?_)) | (go_wp2_with fail; refine hK.out _ _ trivial (fun hq3 => ?_))
        clear hK K
        clear hq2
        replace HF := Lib.hid (HF.out.rk2 hk hr)
        clear hk hr
        refine wpAnyH_ready (rs := [7]) (by kernel_rfl) (by simp) ?_
        refine AllReadyH.cons (o := ?_) ?_ (fun K hK => ?_) AllReadyH.nil
        rotate_left 1
        · (simp only [List.getElem?_toArray, List.getElem?_cons_succ, List.getElem?_cons_zero]; first | done | rfl)
        go_simp
        go_at_call 40
        refine (rvalue_any b _ D2 HF.out.rd).mono ?_
        rintro e D3 (⟨⟨k1, n1, x1, u1, y1⟩, t7, hd7, rfl, hr, hk⟩ | ⟨hd, rfl, hk⟩)
        rotate_left
        · clear hK
          go_wp2_with fail
          exact ⟨rfl, tookf_no (HDN.out (many_stop hlt HM.out (cond_none3 hd3 hd5 hd))) rfl (HF.out.rk.trans hk)⟩
        first | (refine hK.out _ _ trivial (fun hq4 => ?_)) | (go_wp2_with fail; refine hK.out _ _ trivial (fun hq4 => ?_))
        clear hK K
        clear hq3
        replace HF := Lib.hid (HF.out.rk2 hk hr)
        clear hk hr
        (refine wpAnyH_take (i := 8) (oi := ?_) (v := ?_) ?_ (by kernel_rfl) (by kernel_rfl) (by kernel_rfl) ?_ (Or.inl ⟨?_, ?_⟩) (by assumption) ?_; rotate_left 2; (· (simp only [List.getElem?_toArray, List.getElem?_cons_succ, List.getElem?_cons_zero]; first | done | rfl)); (· exact (fun _ _ _ h => h)); (· rfl); (· (intro w hSw; (try dsimp only at hSw); go_simp; (try with_reducible rfl))))
        (try simp only [Act.put, List.setIfInBounds_toArray, List.set_cons_zero, List.set_cons_succ])
        refine wpAnyH_ready (rs := [9]) (by kernel_rfl) (by simp) ?_
        refine AllReadyH.cons (o := ?_) ?_ (fun K hK => ?_) AllReadyH.nil
        rotate_left 1
        · (simp only [List.getElem?_toArray, List.getElem?_cons_succ, List.getElem?_cons_zero]; first | done | rfl)
        go_simp
        first | (refine hK.out _ _ trivial (fun hq5 => ?_)) | (go_wp2_with fail; refine hK.out _ _ trivial (fun hq5 => ?_))
        clear hK K
        (try simp only [Act.put, List.setIfInBounds_toArray, List.set_cons_zero, List.set_cons_succ])
        clear hq4
        have hnw := new_condW D3 ⟨nm, (c3.toNat : Int), ⟨k1, n1, x1, u1, y1⟩⟩ 72
        have hb := balloc D3 (.cells #[.string ⟨nm.toArray⟩, .int .i64 (c3.toNat : Int), .int .i64 k1, .int .i64 n1, .float .f64 x1, .string ⟨u1.toArray⟩, .bool y1] 72)
        generalize hD : World.alloc D3 _ = D4 at *
        replace HF := Lib.hid (HF.out.below hb)
        have HSZ := Lib.hid hb.size
        have HNW := Lib.hid hnw
        clear hb hnw hD
        generalize D3.heap.size = pn at *
        refine wpAnyH_ready (rs := [10]) (by kernel_rfl) (by simp) ?_
        refine AllReadyH.cons (o := ?_) ?_ (fun K hK => ?_) AllReadyH.nil
        rotate_left 1
        · (simp only [List.getElem?_toArray, List.getElem?_cons_succ, List.getElem?_cons_zero]; first | done | rfl)
        refine wp_append_lies _ _ _ 24 rfl (q + 1) 72 i0 (.agg #[.string .empty, .int .i64 0, .int .i64 0, .int .i64 0, .float .f64 0, .string .empty, .bool false]) 7 72 Try.underlying24 hi hz0 hz1 hz2 rfl (by decide) v l.length (flatW l) rfl HF.out.own ⟨pn, 0, none⟩ 1 1 (flatW [⟨nm, (c3.toNat : Int), ⟨k1, n1, x1, u1, y1⟩⟩]) rfl rfl HNW.out (flatW_one _) (by decide) (by unfold maxLen; omega) (by omega) (Nat.succ_le_of_lt HF.out.qlt) D4.heap.size rfl ?_
        intro g9 cap9 D5 hown9 hgrow9 hat9 hlt9
        first | (refine hK.out _ _ trivial (fun hq6 => ?_)) | (go_wp2_with fail; refine hK.out _ _ trivial (fun hq6 => ?_))
        clear hK K
        (try simp only [Act.put, List.setIfInBounds_toArray, List.set_cons_zero, List.set_cons_succ])
        clear hq5
        have HPUT := Lib.hid (HF.out.put (c := ⟨nm, (c3.toNat : Int), ⟨k1, n1, x1, u1, y1⟩⟩) hown9 hgrow9); clear hown9 hgrow9 hat9 hlt9
        (refine wpAnyH_take (i := 11) (oi := ?_) (v := ?_) ?_ (by kernel_rfl) (by kernel_rfl) (by kernel_rfl) ?_ (Or.inl ⟨?_, ?_⟩) (by assumption) ?_; rotate_left 2; (· (simp only [List.getElem?_toArray, List.getElem?_cons_succ, List.getElem?_cons_zero]; first | done | rfl)); (· exact (fun _ _ _ h => h)); (· rfl); (· (intro w hSw; (try dsimp only at hSw); go_simp; (try with_reducible rfl))))
        (try simp only [Act.put, List.setIfInBounds_toArray, List.set_cons_zero, List.set_cons_succ])
        refine wpAnyH_ready (rs := [12]) (by kernel_rfl) (by simp) ?_
        refine AllReadyH.cons (o := ?_) ?_ (fun K hK => ?_) AllReadyH.nil
        rotate_left 1
        · (simp only [List.getElem?_toArray, List.getElem?_cons_succ, List.getElem?_cons_zero]; first | done | rfl)
        obtain ⟨⟨f1, f2⟩, hfs⟩ := HPUT.out
        go_simp
        first | (refine hK.out _ _ trivial (fun hq7 => ?_)) | (go_wp2_with fail; refine hK.out _ _ trivial (fun hq7 => ?_))
        clear hK K
        (try simp only [Act.put, List.setIfInBounds_toArray, List.set_cons_zero, List.set_cons_succ])
        clear hq6
        refine wpAnyH_done (by kernel_rfl) ?_ _
        go_wp2_with fail
        exact ⟨⟨l.length + 1, _, l ++ [⟨nm, (c3.toNat : Int), ⟨k1, n1, x1, u1, y1⟩⟩], t7, by omega, by go_num, by simp, Lib.hid (many_next hlt HM.out (cond_some hd3 hd5 hd7)), Lib.hid hfs⟩, by simp [RowKit.intOf]; go_num⟩
      · skip
        go_simp
        go_at_call 24
        refine (rtext_any b _ D0 HF.out.rd).mono ?_
        rintro e D6 (⟨nm, t1, hd3, rfl, hr, hk⟩ | ⟨hd, rfl, hk⟩)
        rotate_left
        · clear hK
          go_wp2_with fail
          exact ⟨rfl, tookf_no (HDN.out (many_stop hlt HM.out (cond_none1 hd))) rfl (HF.out.rk.trans hk)⟩
        first | (refine hK.out _ _ trivial (fun hq1 => ?_)) | (go_wp2_with fail; refine hK.out _ _ trivial (fun hq1 => ?_))
        clear hK K
        clear hq0
        replace HF := Lib.hid (HF.out.rk2 hk hr)
        clear hk hr
        refine wpAnyH_ready (rs := [1, 5]) (by kernel_rfl) (by simp) ?_
        refine AllReadyH.cons (o := ?_) ?_ (fun K hK => ?_) ?_
        rotate_left 1
        · (simp only [List.getElem?_toArray, List.getElem?_cons_succ, List.getElem?_cons_zero]; first | done | rfl)
        rotate_left 1
        refine AllReadyH.cons (o := ?_) ?_ (fun K hK => ?_) AllReadyH.nil
        rotate_left 1
        · (simp only [List.getElem?_toArray, List.getElem?_cons_succ, List.getElem?_cons_zero]; first | done | rfl)
        rotate_left 1
        · skip
          obtain ⟨f0, f1, f2⟩ := HF.out.cells
          go_simp
          first | (refine hK.out _ _ trivial (fun hq2 => ?_)) | (go_wp2_with fail; refine hK.out _ _ trivial (fun hq2 => ?_))
          clear hK K
          (try simp only [Act.put, List.setIfInBounds_toArray, List.set_cons_zero, List.set_cons_succ])
          clear hq1
          clear f0 f1 f2
          refine wpAnyH_ready (rs := [5]) (by kernel_rfl) (by simp) ?_
          refine AllReadyH.cons (o := ?_) ?_ (fun K hK => ?_) AllReadyH.nil
          rotate_left 1
          · (simp only [List.getElem?_toArray, List.getElem?_cons_succ, List.getElem?_cons_zero]; first | done | rfl)
          go_simp
          go_at_call 21
          refine (rbyte_any b _ D6 HF.out.rd).mono ?_
          rintro e D7 (⟨c3, t5, hd5, rfl, hr, hk⟩ | ⟨hd, rfl, hk⟩)
          rotate_left
          · clear hK
            go_wp2_with fail
            exact ⟨rfl, tookf_no (HDN.out (many_stop hlt HM.out (cond_none2 hd3 hd))) rfl (HF.out.rk.trans hk)⟩
          first | (refine hK.out _ _ trivial (fun hq3 => ?_)) | (go_wp2_with fail; refine hK.out _ _ trivial (fun hq3 => ?_))
          clear hK K
          clear hq2
          replace HF := Lib.hid (HF.out.rk2 hk hr)
          clear hk hr
          refine wpAnyH_ready (rs := [7]) (by kernel_rfl) (by simp) ?_
          refine AllReadyH.cons (o := ?_) ?_ (fun K hK => ?_) AllReadyH.nil
          rotate_left 1
          · (simp only [List.getElem?_toArray, List.getElem?_cons_succ, List.getElem?_cons_zero]; first | done | rfl)
          go_simp
          go_at_call 40
          refine (rvalue_any b _ D7 HF.out.rd).mono ?_
          rintro e D8 (⟨⟨k1, n1, x1, u1, y1⟩, t7, hd7, rfl, hr, hk⟩ | ⟨hd, rfl, hk⟩)
          rotate_left
          · clear hK
            go_wp2_with fail
            exact ⟨rfl, tookf_no (HDN.out (many_stop hlt HM.out (cond_none3 hd3 hd5 hd))) rfl (HF.out.rk.trans hk)⟩
          first | (refine hK.out _ _ trivial (fun hq4 => ?_)) | (go_wp2_with fail; refine hK.out _ _ trivial (fun hq4 => ?_))
          clear hK K
          clear hq3
          replace HF := Lib.hid (HF.out.rk2 hk hr)
          clear hk hr
          (refine wpAnyH_take (i := 8) (oi := ?_) (v := ?_) ?_ (by kernel_rfl) (by kernel_rfl) (by kernel_rfl) ?_ (Or.inl ⟨?_, ?_⟩) (by assumption) ?_; rotate_left 2; (· (simp only [List.getElem?_toArray, List.getElem?_cons_succ, List.getElem?_cons_zero]; first | done | rfl)); (· exact (fun _ _ _ h => h)); (· rfl); (· (intro w hSw; (try dsimp only at hSw); go_simp; (try with_reducible rfl))))
          (try simp only [Act.put, List.setIfInBounds_toArray, List.set_cons_zero, List.set_cons_succ])
          refine wpAnyH_ready (rs := [9]) (by kernel_rfl) (by simp) ?_
          refine AllReadyH.cons (o := ?_) ?_ (fun K hK => ?_) AllReadyH.nil
          rotate_left 1
          · (simp only [List.getElem?_toArray, List.getElem?_cons_succ, List.getElem?_cons_zero]; first | done | rfl)
          go_simp
          first | (refine hK.out _ _ trivial (fun hq5 => ?_)) | (go_wp2_with fail; refine hK.out _ _ trivial (fun hq5 => ?_))
          clear hK K
          (try simp only [Act.put, List.setIfInBounds_toArray, List.set_cons_zero, List.set_cons_succ])
          clear hq4
          have hnw := new_condW D8 ⟨nm, (c3.toNat : Int), ⟨k1, n1, x1, u1, y1⟩⟩ 72
          have hb := balloc D8 (.cells #[.string ⟨nm.toArray⟩, .int .i64 (c3.toNat : Int), .int .i64 k1, .int .i64 n1, .float .f64 x1, .string ⟨u1.toArray⟩, .bool y1] 72)
          generalize hD : World.alloc D8 _ = D9 at *
          replace HF := Lib.hid (HF.out.below hb)
          have HSZ := Lib.hid hb.size
          have HNW := Lib.hid hnw
          clear hb hnw hD
          generalize D8.heap.size = pn at *
          refine wpAnyH_ready (rs := [10]) (by kernel_rfl) (by simp) ?_
          refine AllReadyH.cons (o := ?_) ?_ (fun K hK => ?_) AllReadyH.nil
          rotate_left 1
          · (simp only [List.getElem?_toArray, List.getElem?_cons_succ, List.getElem?_cons_zero]; first | done | rfl)
          refine wp_append_lies _ _ _ 24 rfl (q + 1) 72 i0 (.agg #[.string .empty, .int .i64 0, .int .i64 0, .int .i64 0, .float .f64 0, .string .empty, .bool false]) 7 72 Try.underlying24 hi hz0 hz1 hz2 rfl (by decide) v l.length (flatW l) rfl HF.out.own ⟨pn, 0, none⟩ 1 1 (flatW [⟨nm, (c3.toNat : Int), ⟨k1, n1, x1, u1, y1⟩⟩]) rfl rfl HNW.out (flatW_one _) (by decide) (by unfold maxLen; omega) (by omega) (Nat.succ_le_of_lt HF.out.qlt) D9.heap.size rfl ?_
          intro g9 cap9 D10 hown9 hgrow9 hat9 hlt9
          first | (refine hK.out _ _ trivial (fun hq6 => ?_)) | (go_wp2_with fail; refine hK.out _ _ trivial (fun hq6 => ?_))
          clear hK K
          (try simp only [Act.put, List.setIfInBounds_toArray, List.set_cons_zero, List.set_cons_succ])
          clear hq5
          have HPUT := Lib.hid (HF.out.put (c := ⟨nm, (c3.toNat : Int), ⟨k1, n1, x1, u1, y1⟩⟩) hown9 hgrow9); clear hown9 hgrow9 hat9 hlt9
          (refine wpAnyH_take (i := 11) (oi := ?_) (v := ?_) ?_ (by kernel_rfl) (by kernel_rfl) (by kernel_rfl) ?_ (Or.inl ⟨?_, ?_⟩) (by assumption) ?_; rotate_left 2; (· (simp only [List.getElem?_toArray, List.getElem?_cons_succ, List.getElem?_cons_zero]; first | done | rfl)); (· exact (fun _ _ _ h => h)); (· rfl); (· (intro w hSw; (try dsimp only at hSw); go_simp; (try with_reducible rfl))))
          (try simp only [Act.put, List.setIfInBounds_toArray, List.set_cons_zero, List.set_cons_succ])
          refine wpAnyH_ready (rs := [12]) (by kernel_rfl) (by simp) ?_
          refine AllReadyH.cons (o := ?_) ?_ (fun K hK => ?_) AllReadyH.nil
          rotate_left 1
          · (simp only [List.getElem?_toArray, List.getElem?_cons_succ, List.getElem?_cons_zero]; first | done | rfl)
          obtain ⟨⟨f1, f2⟩, hfs⟩ := HPUT.out
          go_simp
          first | (refine hK.out _ _ trivial (fun hq7 => ?_)) | (go_wp2_with fail; refine hK.out _ _ trivial (fun hq7 => ?_))
          clear hK K
          (try simp only [Act.put, List.setIfInBounds_toArray, List.set_cons_zero, List.set_cons_succ])
          clear hq6
          refine wpAnyH_done (by kernel_rfl) ?_ _
          go_wp2_with fail
          exact ⟨⟨l.length + 1, _, l ++ [⟨nm, (c3.toNat : Int), ⟨k1, n1, x1, u1, y1⟩⟩], t7, by omega, by go_num, by simp, Lib.hid (many_next hlt HM.out (cond_some hd3 hd5 hd7)), Lib.hid hfs⟩, by simp [RowKit.intOf]; go_num⟩
        · skip
          go_simp
          go_at_call 21
          refine (rbyte_any b _ D6 HF.out.rd).mono ?_
          rintro e D11 (⟨c3, t5, hd5, rfl, hr, hk⟩ | ⟨hd, rfl, hk⟩)
          rotate_left
          · clear hK
            go_wp2_with fail
            exact ⟨rfl, tookf_no (HDN.out (many_stop hlt HM.out (cond_none2 hd3 hd))) rfl (HF.out.rk.trans hk)⟩
          first | (refine hK.out _ _ trivial (fun hq2 => ?_)) | (go_wp2_with fail; refine hK.out _ _ trivial (fun hq2 => ?_))
          clear hK K
          clear hq1
          replace HF := Lib.hid (HF.out.rk2 hk hr)
          clear hk hr
          refine wpAnyH_ready (rs := [1, 7]) (by kernel_rfl) (by simp) ?_
          refine AllReadyH.cons (o := ?_) ?_ (fun K hK => ?_) ?_
          rotate_left 1
          · (simp only [List.getElem?_toArray, List.getElem?_cons_succ, List.getElem?_cons_zero]; first | done | rfl)
          rotate_left 1
          refine AllReadyH.cons (o := ?_) ?_ (fun K hK => ?_) AllReadyH.nil
          rotate_left 1
          · (simp only [List.getElem?_toArray, List.getElem?_cons_succ, List.getElem?_cons_zero]; first | done | rfl)
          rotate_left 1
          · skip
            obtain ⟨f0, f1, f2⟩ := HF.out.cells
            go_simp
            first | (refine hK.out _ _ trivial (fun hq3 => ?_)) | (go_wp2_with fail; refine hK.out _ _ trivial (fun hq3 => ?_))
            clear hK K
            (try simp only [Act.put, List.setIfInBounds_toArray, List.set_cons_zero, List.set_cons_succ])
            clear hq2
            clear f0 f1 f2
            refine wpAnyH_ready (rs := [7]) (by kernel_rfl) (by simp) ?_
            refine AllReadyH.cons (o := ?_) ?_ (fun K hK => ?_) AllReadyH.nil
            rotate_left 1
            · (simp only [List.getElem?_toArray, List.getElem?_cons_succ, List.getElem?_cons_zero]; first | done | rfl)
            go_simp
            go_at_call 40
            refine (rvalue_any b _ D11 HF.out.rd).mono ?_
            rintro e D12 (⟨⟨k1, n1, x1, u1, y1⟩, t7, hd7, rfl, hr, hk⟩ | ⟨hd, rfl, hk⟩)
            rotate_left
            · clear hK
              go_wp2_with fail
              exact ⟨rfl, tookf_no (HDN.out (many_stop hlt HM.out (cond_none3 hd3 hd5 hd))) rfl (HF.out.rk.trans hk)⟩
            first | (refine hK.out _ _ trivial (fun hq4 => ?_)) | (go_wp2_with fail; refine hK.out _ _ trivial (fun hq4 => ?_))
            clear hK K
            clear hq3
            replace HF := Lib.hid (HF.out.rk2 hk hr)
            clear hk hr
            (refine wpAnyH_take (i := 8) (oi := ?_) (v := ?_) ?_ (by kernel_rfl) (by kernel_rfl) (by kernel_rfl) ?_ (Or.inl ⟨?_, ?_⟩) (by assumption) ?_; rotate_left 2; (· (simp only [List.getElem?_toArray, List.getElem?_cons_succ, List.getElem?_cons_zero]; first | done | rfl)); (· exact (fun _ _ _ h => h)); (· rfl); (· (intro w hSw; (try dsimp only at hSw); go_simp; (try with_reducible rfl))))
            (try simp only [Act.put, List.setIfInBounds_toArray, List.set_cons_zero, List.set_cons_succ])
            refine wpAnyH_ready (rs := [9]) (by kernel_rfl) (by simp) ?_
            refine AllReadyH.cons (o := ?_) ?_ (fun K hK => ?_) AllReadyH.nil
            rotate_left 1
            · (simp only [List.getElem?_toArray, List.getElem?_cons_succ, List.getElem?_cons_zero]; first | done | rfl)
            go_simp
            first | (refine hK.out _ _ trivial (fun hq5 => ?_)) | (go_wp2_with fail; refine hK.out _ _ trivial (fun hq5 => ?_))
            clear hK K
            (try simp only [Act.put, List.setIfInBounds_toArray, List.set_cons_zero, List.set_cons_succ])
            clear hq4
            have hnw := new_condW D12 ⟨nm, (c3.toNat : Int), ⟨k1, n1, x1, u1, y1⟩⟩ 72
            have hb := balloc D12 (.cells #[.string ⟨nm.toArray⟩, .int .i64 (c3.toNat : Int), .int .i64 k1, .int .i64 n1, .float .f64 x1, .string ⟨u1.toArray⟩, .bool y1] 72)
            generalize hD : World.alloc D12 _ = D13 at *
            replace HF := Lib.hid (HF.out.below hb)
            have HSZ := Lib.hid hb.size
            have HNW := Lib.hid hnw
            clear hb hnw hD
            generalize D12.heap.size = pn at *
            refine wpAnyH_ready (rs := [10]) (by kernel_rfl) (by simp) ?_
            refine AllReadyH.cons (o := ?_) ?_ (fun K hK => ?_) AllReadyH.nil
            rotate_left 1
            · (simp only [List.getElem?_toArray, List.getElem?_cons_succ, List.getElem?_cons_zero]; first | done | rfl)
            refine wp_append_lies _ _ _ 24 rfl (q + 1) 72 i0 (.agg #[.string .empty, .int .i64 0, .int .i64 0, .int .i64 0, .float .f64 0, .string .empty, .bool false]) 7 72 Try.underlying24 hi hz0 hz1 hz2 rfl (by decide) v l.length (flatW l) rfl HF.out.own ⟨pn, 0, none⟩ 1 1 (flatW [⟨nm, (c3.toNat : Int), ⟨k1, n1, x1, u1, y1⟩⟩]) rfl rfl HNW.out (flatW_one _) (by decide) (by unfold maxLen; omega) (by omega) (Nat.succ_le_of_lt HF.out.qlt) D13.heap.size rfl ?_
            intro g9 cap9 D14 hown9 hgrow9 hat9 hlt9
            first | (refine hK.out _ _ trivial (fun hq6 => ?_)) | (go_wp2_with fail; refine hK.out _ _ trivial (fun hq6 => ?_))
            clear hK K
            (try simp only [Act.put, List.setIfInBounds_toArray, List.set_cons_zero, List.set_cons_succ])
            clear hq5
            have HPUT := Lib.hid (HF.out.put (c := ⟨nm, (c3.toNat : Int), ⟨k1, n1, x1, u1, y1⟩⟩) hown9 hgrow9); clear hown9 hgrow9 hat9 hlt9
            (refine wpAnyH_take (i := 11) (oi := ?_) (v := ?_) ?_ (by kernel_rfl) (by kernel_rfl) (by kernel_rfl) ?_ (Or.inl ⟨?_, ?_⟩) (by assumption) ?_; rotate_left 2; (· (simp only [List.getElem?_toArray, List.getElem?_cons_succ, List.getElem?_cons_zero]; first | done | rfl)); (· exact (fun _ _ _ h => h)); (· rfl); (· (intro w hSw; (try dsimp only at hSw); go_simp; (try with_reducible rfl))))
            (try simp only [Act.put, List.setIfInBounds_toArray, List.set_cons_zero, List.set_cons_succ])
            refine wpAnyH_ready (rs := [12]) (by kernel_rfl) (by simp) ?_
            refine AllReadyH.cons (o := ?_) ?_ (fun K hK => ?_) AllReadyH.nil
            rotate_left 1
            · (simp only [List.getElem?_toArray, List.getElem?_cons_succ, List.getElem?_cons_zero]; first | done | rfl)
            obtain ⟨⟨f1, f2⟩, hfs⟩ := HPUT.out
            go_simp
            first | (refine hK.out _ _ trivial (fun hq7 => ?_)) | (go_wp2_with fail; refine hK.out _ _ trivial (fun hq7 => ?_))
            clear hK K
            (try simp only [Act.put, List.setIfInBounds_toArray, List.set_cons_zero, List.set_cons_succ])
            clear hq6
            refine wpAnyH_done (by kernel_rfl) ?_ _
            go_wp2_with fail
            exact ⟨⟨l.length + 1, _, l ++ [⟨nm, (c3.toNat : Int), ⟨k1, n1, x1, u1, y1⟩⟩], t7, by omega, by go_num, by simp, Lib.hid (many_next hlt HM.out (cond_some hd3 hd5 hd7)), Lib.hid hfs⟩, by simp [RowKit.intOf]; go_num⟩
          · skip
            go_simp
            go_at_call 40
            refine (rvalue_any b _ D11 HF.out.rd).mono ?_
            rintro e D15 (⟨⟨k1, n1, x1, u1, y1⟩, t7, hd7, rfl, hr, hk⟩ | ⟨hd, rfl, hk⟩)
            rotate_left
            · clear hK
              go_wp2_with fail
              exact ⟨rfl, tookf_no (HDN.out (many_stop hlt HM.out (cond_none3 hd3 hd5 hd))) rfl (HF.out.rk.trans hk)⟩
            first | (refine hK.out _ _ trivial (fun hq3 => ?_)) | (go_wp2_with fail; refine hK.out _ _ trivial (fun hq3 => ?_))
            clear hK K
            clear hq2
            replace HF := Lib.hid (HF.out.rk2 hk hr)
            clear hk hr
            (refine wpAnyH_take (i := 8) (oi := ?_) (v := ?_) ?_ (by kernel_rfl) (by kernel_rfl) (by kernel_rfl) ?_ (Or.inl ⟨?_, ?_⟩) (by assumption) ?_; rotate_left 2; (· (simp only [List.getElem?_toArray, List.getElem?_cons_succ, List.getElem?_cons_zero]; first | done | rfl)); (· exact (fun _ _ _ h => h)); (· rfl); (· (intro w hSw; (try dsimp only at hSw); go_simp; (try with_reducible rfl))))
            (try simp only [Act.put, List.setIfInBounds_toArray, List.set_cons_zero, List.set_cons_succ])
            refine wpAnyH_ready (rs := [1, 9]) (by kernel_rfl) (by simp) ?_
            refine AllReadyH.cons (o := ?_) ?_ (fun K hK => ?_) ?_
            rotate_left 1
            · (simp only [List.getElem?_toArray, List.getElem?_cons_succ, List.getElem?_cons_zero]; first | done | rfl)
            rotate_left 1
            refine AllReadyH.cons (o := ?_) ?_ (fun K hK => ?_) AllReadyH.nil
            rotate_left 1
            · (simp only [List.getElem?_toArray, List.getElem?_cons_succ, List.getElem?_cons_zero]; first | done | rfl)
            rotate_left 1
            · skip
              obtain ⟨f0, f1, f2⟩ := HF.out.cells
              go_simp
              first | (refine hK.out _ _ trivial (fun hq4 => ?_)) | (go_wp2_with fail; refine hK.out _ _ trivial (fun hq4 => ?_))
              clear hK K
              (try simp only [Act.put, List.setIfInBounds_toArray, List.set_cons_zero, List.set_cons_succ])
              clear hq3
              clear f0 f1 f2
              refine wpAnyH_ready (rs := [9]) (by kernel_rfl) (by simp) ?_
              refine AllReadyH.cons (o := ?_) ?_ (fun K hK => ?_) AllReadyH.nil
              rotate_left 1
              · (simp only [List.getElem?_toArray, List.getElem?_cons_succ, List.getElem?_cons_zero]; first | done | rfl)
              go_simp
              first | (refine hK.out _ _ trivial (fun hq5 => ?_)) | (go_wp2_with fail; refine hK.out _ _ trivial (fun hq5 => ?_))
              clear hK K
              (try simp only [Act.put, List.setIfInBounds_toArray, List.set_cons_zero, List.set_cons_succ])
              clear hq4
              have hnw := new_condW D15 ⟨nm, (c3.toNat : Int), ⟨k1, n1, x1, u1, y1⟩⟩ 72
              have hb := balloc D15 (.cells #[.string ⟨nm.toArray⟩, .int .i64 (c3.toNat : Int), .int .i64 k1, .int .i64 n1, .float .f64 x1, .string ⟨u1.toArray⟩, .bool y1] 72)
              generalize hD : World.alloc D15 _ = D16 at *
              replace HF := Lib.hid (HF.out.below hb)
              have HSZ := Lib.hid hb.size
              have HNW := Lib.hid hnw
              clear hb hnw hD
              generalize D15.heap.size = pn at *
              refine wpAnyH_ready (rs := [10]) (by kernel_rfl) (by simp) ?_
              refine AllReadyH.cons (o := ?_) ?_ (fun K hK => ?_) AllReadyH.nil
              rotate_left 1
              · (simp only [List.getElem?_toArray, List.getElem?_cons_succ, List.getElem?_cons_zero]; first | done | rfl)
              refine wp_append_lies _ _ _ 24 rfl (q + 1) 72 i0 (.agg #[.string .empty, .int .i64 0, .int .i64 0, .int .i64 0, .float .f64 0, .string .empty, .bool false]) 7 72 Try.underlying24 hi hz0 hz1 hz2 rfl (by decide) v l.length (flatW l) rfl HF.out.own ⟨pn, 0, none⟩ 1 1 (flatW [⟨nm, (c3.toNat : Int), ⟨k1, n1, x1, u1, y1⟩⟩]) rfl rfl HNW.out (flatW_one _) (by decide) (by unfold maxLen; omega) (by omega) (Nat.succ_le_of_lt HF.out.qlt) D16.heap.size rfl ?_
              intro g9 cap9 D17 hown9 hgrow9 hat9 hlt9
              first | (refine hK.out _ _ trivial (fun hq6 => ?_)) | (go_wp2_with fail; refine hK.out _ _ trivial (fun hq6 => ?_))
              clear hK K
              (try simp only [Act.put, List.setIfInBounds_toArray, List.set_cons_zero, List.set_cons_succ])
              clear hq5
              have HPUT := Lib.hid (HF.out.put (c := ⟨nm, (c3.toNat : Int), ⟨k1, n1, x1, u1, y1⟩⟩) hown9 hgrow9); clear hown9 hgrow9 hat9 hlt9
              (refine wpAnyH_take (i := 11) (oi := ?_) (v := ?_) ?_ (by kernel_rfl) (by kernel_rfl) (by kernel_rfl) ?_ (Or.inl ⟨?_, ?_⟩) (by assumption) ?_; rotate_left 2; (· (simp only [List.getElem?_toArray, List.getElem?_cons_succ, List.getElem?_cons_zero]; first | done | rfl)); (· exact (fun _ _ _ h => h)); (· rfl); (· (intro w hSw; (try dsimp only at hSw); go_simp; (try with_reducible rfl))))
              (try simp only [Act.put, List.setIfInBounds_toArray, List.set_cons_zero, List.set_cons_succ])
              refine wpAnyH_ready (rs := [12]) (by kernel_rfl) (by simp) ?_
              refine AllReadyH.cons (o := ?_) ?_ (fun K hK => ?_) AllReadyH.nil
              rotate_left 1
              · (simp only [List.getElem?_toArray, List.getElem?_cons_succ, List.getElem?_cons_zero]; first | done | rfl)
              obtain ⟨⟨f1, f2⟩, hfs⟩ := HPUT.out
              go_simp
              first | (refine hK.out _ _ trivial (fun hq7 => ?_)) | (go_wp2_with fail; refine hK.out _ _ trivial (fun hq7 => ?_))
              clear hK K
              (try simp only [Act.put, List.setIfInBounds_toArray, List.set_cons_zero, List.set_cons_succ])
              clear hq6
              refine wpAnyH_done (by kernel_rfl) ?_ _
              go_wp2_with fail
              exact ⟨⟨l.length + 1, _, l ++ [⟨nm, (c3.toNat : Int), ⟨k1, n1, x1, u1, y1⟩⟩], t7, by omega, by go_num, by simp, Lib.hid (many_next hlt HM.out (cond_some hd3 hd5 hd7)), Lib.hid hfs⟩, by simp [RowKit.intOf]; go_num⟩
            · skip
              go_simp
              first | (refine hK.out _ _ trivial (fun hq4 => ?_)) | (go_wp2_with fail; refine hK.out _ _ trivial (fun hq4 => ?_))
              clear hK K
              (try simp only [Act.put, List.setIfInBounds_toArray, List.set_cons_zero, List.set_cons_succ])
              clear hq3
              have hnw := new_condW D15 ⟨nm, (c3.toNat : Int), ⟨k1, n1, x1, u1, y1⟩⟩ 72
              have hb := balloc D15 (.cells #[.string ⟨nm.toArray⟩, .int .i64 (c3.toNat : Int), .int .i64 k1, .int .i64 n1, .float .f64 x1, .string ⟨u1.toArray⟩, .bool y1] 72)
              generalize hD : World.alloc D15 _ = D18 at *
              replace HF := Lib.hid (HF.out.below hb)
              have HSZ := Lib.hid hb.size
              have HNW := Lib.hid hnw
              clear hb hnw hD
              generalize D15.heap.size = pn at *
              refine wpAnyH_ready (rs := [1]) (by kernel_rfl) (by simp) ?_
              refine AllReadyH.cons (o := ?_) ?_ (fun K hK => ?_) AllReadyH.nil
              rotate_left 1
              · (simp only [List.getElem?_toArray, List.getElem?_cons_succ, List.getElem?_cons_zero]; first | done | rfl)
              obtain ⟨f0, f1, f2⟩ := HF.out.cells
              go_simp
              first | (refine hK.out _ _ trivial (fun hq5 => ?_)) | (go_wp2_with fail; refine hK.out _ _ trivial (fun hq5 => ?_))
              clear hK K
              (try simp only [Act.put, List.setIfInBounds_toArray, List.set_cons_zero, List.set_cons_succ])
              clear hq4
              clear f0 f1 f2
              refine wpAnyH_ready (rs := [10]) (by kernel_rfl) (by simp) ?_
              refine AllReadyH.cons (o := ?_) ?_ (fun K hK => ?_) AllReadyH.nil
              rotate_left 1
              · (simp only [List.getElem?_toArray, List.getElem?_cons_succ, List.getElem?_cons_zero]; first | done | rfl)
              refine wp_append_lies _ _ _ 24 rfl (q + 1) 72 i0 (.agg #[.string .empty, .int .i64 0, .int .i64 0, .int .i64 0, .float .f64 0, .string .empty, .bool false]) 7 72 Try.underlying24 hi hz0 hz1 hz2 rfl (by decide) v l.length (flatW l) rfl HF.out.own ⟨pn, 0, none⟩ 1 1 (flatW [⟨nm, (c3.toNat : Int), ⟨k1, n1, x1, u1, y1⟩⟩]) rfl rfl HNW.out (flatW_one _) (by decide) (by unfold maxLen; omega) (by omega) (Nat.succ_le_of_lt HF.out.qlt) D18.heap.size rfl ?_
              intro g9 cap9 D19 hown9 hgrow9 hat9 hlt9
              first | (refine hK.out _ _ trivial (fun hq6 => ?_)) | (go_wp2_with fail; refine hK.out _ _ trivial (fun hq6 => ?_))
              clear hK K
              (try simp only [Act.put, List.setIfInBounds_toArray, List.set_cons_zero, List.set_cons_succ])
              clear hq5
              have HPUT := Lib.hid (HF.out.put (c := ⟨nm, (c3.toNat : Int), ⟨k1, n1, x1, u1, y1⟩⟩) hown9 hgrow9); clear hown9 hgrow9 hat9 hlt9
              (refine wpAnyH_take (i := 11) (oi := ?_) (v := ?_) ?_ (by kernel_rfl) (by kernel_rfl) (by kernel_rfl) ?_ (Or.inl ⟨?_, ?_⟩) (by assumption) ?_; rotate_left 2; (· (simp only [List.getElem?_toArray, List.getElem?_cons_succ, List.getElem?_cons_zero]; first | done | rfl)); (· exact (fun _ _ _ h => h)); (· rfl); (· (intro w hSw; (try dsimp only at hSw); go_simp; (try with_reducible rfl))))
              (try simp only [Act.put, List.setIfInBounds_toArray, List.set_cons_zero, List.set_cons_succ])
              refine wpAnyH_ready (rs := [12]) (by kernel_rfl) (by simp) ?_
              refine AllReadyH.cons (o := ?_) ?_ (fun K hK => ?_) AllReadyH.nil
              rotate_left 1
              · (simp only [List.getElem?_toArray, List.getElem?_cons_succ, List.getElem?_cons_zero]; first | done | rfl)
              obtain ⟨⟨f1, f2⟩, hfs⟩ := HPUT.out
              go_simp
              first | (refine hK.out _ _ trivial (fun hq7 => ?_)) | (go_wp2_with fail; refine hK.out _ _ trivial (fun hq7 => ?_))
              clear hK K
              (try simp only [Act.put, List.setIfInBounds_toArray, List.set_cons_zero, List.set_cons_succ])
              clear hq6
              refine wpAnyH_done (by kernel_rfl) ?_ _
              go_wp2_with fail
              exact ⟨⟨l.length + 1, _, l ++ [⟨nm, (c3.toNat : Int), ⟨k1, n1, x1, u1, y1⟩⟩], t7, by omega, by go_num, by simp, Lib.hid (many_next hlt HM.out (cond_some hd3 hd5 hd7)), Lib.hid hfs⟩, by simp [RowKit.intOf]; go_num⟩
    · have i1 : ¬ (l.length : Int) < (n : Int) := by omega
      obtain rfl : n = l.length := by omega
      have hdec := HDF.out _ _ (many_end HM.out)
      have HDEC := Lib.hid hdec
      obtain ⟨f0, f1, f2⟩ := HF.out.cells
      obtain ⟨a0, cap, rfl, hcap, hcn, hcs, hbl⟩ := own_condsW HF.out.own
      have x0 := HF.out.p0; have x1 := HF.out.p1; have xz := HF.out.pz
      have hpw := HF.out.qw
      clear HM HDN HDF hdec
      go_wp2_with fail
      have hend := HF.out
      obtain ⟨e0, e1⟩ := set2W wr w.heap.size (.string ⟨sf.toArray⟩) (.slice a0 l.length cap) (by rw [x0]; rfl) (by rw [x1]; rfl)
      refine bodyPost_ret (v := ev sf a0 l.length cap) (by simp [results, Try.results23, go_sem, e0, e1]; try rfl) rfl ?_
      refine .inl ⟨sf, l, rest, a0, cap, HDEC.out, rfl, hcap, ?_, fun a e => by have := hbl a e; omega, hcn, rd_far (rd_far hend.rd hend.bw) hend.bw, rk_far (rk_far hend.rk (Nat.le_refl _)) (Nat.le_refl _)⟩
      exact conds_keep hcs (fun a e p hp _ => (World.cell?_setCell_other _ _ _ _ (by intro e2; have := hbl a e; rw [← e2] at hp; simp at hp; omega)).trans (World.cell?_setCell_other _ _ _ _ (by intro e2; have := hbl a e; rw [← e2] at hp; simp at hp; omega)))
end Go.Proofs.Ytpbdgbejcdncgaa.Wire
end

section
/- A READER OF BYTES: an event. -/
namespace Go.Proofs.Ytpbdgbejcdncgaa.Wire
open Go.RowKit Flt Go.Proofs.Ytpbdgbejcdncgaa.Val Go.Lib
variable {B : Nat}
attribute [local go_sem] run_store_flt
def decAttr (s : List UInt8) : Option (A × List UInt8) := match decText s with
  | none => none
  | some (nm, t) => match decVal t with
    | none => none
    | some (v, r) => some (⟨nm, v⟩, r)
def decEvent (s : List UInt8) : Option ((List UInt8 × List A) × List UInt8) := match decText s with
  | none => none
  | some (sf, t) => match decByte t with
    | none => none
    | some (c, t2) => match decMany decAttr c.toNat t2 with
      | none => none
      | some (l, r) => if rightL l then some ((sf, l), r) else none
def cells6E (a : A) : List Value := [.string ⟨a.name.toArray⟩, .int .i64 a.val.kind, .int .i64 a.val.int, .float .f64 a.val.num, .string ⟨a.val.text.toArray⟩, .bool a.val.yes]
def flatE (l : List A) : List Value := l.flatMap cells6E
theorem attr_none1 {s : List UInt8} (h : decText s = none) : decAttr s = none := by unfold decAttr; rw [h]
theorem attr_none2 {s t nm : List UInt8} (h : decText s = some (nm, t)) (h2 : decVal t = none) : decAttr s = none := by unfold decAttr; rw [h]; dsimp only; rw [h2]
theorem attr_some {s t nm r : List UInt8} {v : V} (h : decText s = some (nm, t)) (h2 : decVal t = some (v, r)) : decAttr s = some (⟨nm, v⟩, r) := by unfold decAttr; rw [h]; dsimp only; rw [h2]
theorem flatE_at : ∀ (l : List A) (i j : Nat) (hi : i < l.length), j < 6 → (flatE l)[i * 6 + j]? = (cells6E l[i])[j]?
  | v :: l, 0, j, _, hj => by
    unfold flatE; rw [List.flatMap_cons, List.getElem?_append_left (by simp [cells6E]; omega)]; simp
  | v :: l, i + 1, j, hi, hj => by
    unfold flatE; rw [List.flatMap_cons, List.getElem?_append_right (by simp [cells6E]; omega)]
    have e : (i + 1) * 6 + j - (cells6E v).length = i * 6 + j := by simp [cells6E]; omega
    rw [e]
    exact flatE_at l i j (by simpa using hi) hj
theorem flatE_one (l : List A) : ∀ u ∈ flatE l, u.oneCell' = true := by
  intro u hu
  obtain ⟨v, _, hv⟩ := List.mem_flatMap.1 hu
  simp only [cells6E, List.mem_cons, List.not_mem_nil, or_false] at hv
  rcases hv with rfl | rfl | rfl | rfl | rfl | rfl <;> rfl
theorem info_attrE : (Try.prog.info? 76).map (fun i => (i.zero, i.size, i.bytes)) = some (some (.agg #[.string .empty, .int .i64 0, .int .i64 0, .float .f64 0, .string .empty, .bool false]), 6, 64) := by kernel_rfl
theorem new_attrE (w : World) (c : A) (e : TypeId) : ∀ j u, (flatE [c])[j]? = some u → (w.alloc (.cells #[.string ⟨c.name.toArray⟩, .int .i64 c.val.kind, .int .i64 c.val.int, .float .f64 c.val.num, .string ⟨c.val.text.toArray⟩, .bool c.val.yes] e)).cell? ((⟨w.heap.size, 0, none⟩ : Addr).add j) = some u := by
  intro j u hj
  have hadd : (⟨w.heap.size, 0, none⟩ : Addr).add j = ⟨w.heap.size, j, none⟩ := by unfold Addr.add; split <;> simp_all
  rw [hadd, World.cell?_alloc_at _ _ _ _ rfl]
  simpa [flatE, cells6E] using hj
theorem own_attrsE {w : World} {v : Value} {l : List A} {base : Nat} (h : w.ownsRow base 76 6 v l.length (flatE l)) :
    ∃ a0 cap, v = .slice a0 l.length cap ∧ l.length ≤ cap ∧ (a0 = none → cap = 0) ∧ Attrs w a0 l ∧ (∀ a, a0 = some a → base ≤ a.block) := by
  rcases h.2 with ⟨rfl, h0⟩ | ⟨g, cp, cur, rfl, hb, _, hn, _⟩
  · have : l = [] := List.eq_nil_of_length_eq_zero h0
    subst this
    exact ⟨none, 0, rfl, Nat.le_refl _, fun _ => rfl, fun i hi => absurd hi (Nat.not_lt_zero _), fun a e => by cases e⟩
  · refine ⟨some ⟨g, 0, none⟩, cp, rfl, hn, fun e => (by cases e), fun i hi => ⟨_, rfl, ?_⟩, fun a e => by injection e with e; rw [← e]; exact hb⟩
    have k : ∀ j (hj : j < 6), w.cell? ⟨g, i * 6 + j, none⟩ = (cells6E l[i])[j]? := by
      intro j hj
      have hm := flatE_at l i j hi hj
      have hc : (cells6E l[i])[j]? = some ((cells6E l[i])[j]'(by simpa [cells6E] using hj)) := by simp
      rw [hc] at hm ⊢
      have := h.cells rfl (i * 6 + j) _ hm
      have hadd : (⟨g, 0, none⟩ : Addr).add (i * 6 + j) = ⟨g, i * 6 + j, none⟩ := by unfold Addr.add; split <;> simp_all
      rw [← hadd]; exact this
    have hadd : (⟨g, 0, none⟩ : Addr).add (i * 6) = ⟨g, i * 6, none⟩ := by unfold Addr.add; split <;> simp_all
    rw [hadd]
    exact ⟨k 0 (by omega), k 1 (by omega), k 2 (by omega), k 3 (by omega), k 4 (by omega), k 5 (by omega)⟩
/-- a filter under way: its box at q, its row -/
structure ES (B : Nat) (w D : World) (b q : Nat) (sf : List UInt8) (v : Value) (l : List A) (r : List UInt8) : Prop where
  rd : RdAt D b B r
  rk : RK b w D
  c0 : D.cell? ⟨q, 0, none⟩ = some (.string ⟨sf.toArray⟩)
  c1 : D.cell? ⟨q, 1, none⟩ = some v
  z : ∀ o, D.frozen? ⟨q, o, none⟩ = false
  own : D.ownsRow (q + 1) 76 6 v l.length (flatE l)
  p0 : D.cell? ⟨w.heap.size, 0, none⟩ = some (.string ⟨#[]⟩)
  p1 : D.cell? ⟨w.heap.size, 1, none⟩ = some (.slice none 0 0)
  pz : ∀ o, D.frozen? ⟨w.heap.size, o, none⟩ = false
  qw : w.heap.size < q
  bw : b < w.heap.size
theorem ES.cells {w D : World} {b q : Nat} {sf : List UInt8} {v : Value} {l : List A} {r : List UInt8} (h : ES B w D b q sf v l r) : D.cell? ⟨q, 0, none⟩ = some (.string ⟨sf.toArray⟩) ∧ D.cell? ⟨q, 1, none⟩ = some v ∧ D.frozen? ⟨q, 1, none⟩ = false := ⟨h.c0, h.c1, h.z 1⟩
theorem ES.qlt {w D : World} {b q : Nat} {sf : List UInt8} {v : Value} {l : List A} {r : List UInt8} (h : ES B w D b q sf v l r) : q < D.heap.size := World.block_lt_of_cell? _ _ h.c0
theorem ES.rk2 {w D D2 : World} {b q : Nat} {sf : List UInt8} {v : Value} {l : List A} {r r2 : List UInt8} (h : ES B w D b q sf v l r) (hk : RK b D D2) (hr : RdAt D2 b B r2) : ES B w D2 b q sf v l r2 := by
  have hq := h.qlt
  have hne : q ≠ b := by have := h.qw; have := h.bw; omega
  have hpb : w.heap.size ≠ b := by have := h.bw; omega
  have hpd : w.heap.size < D.heap.size := World.block_lt_of_cell? _ _ h.p0
  exact ⟨hr, h.rk.trans hk, (hk.cell (p := ⟨q, 0, none⟩) hq hne).trans h.c0, (hk.cell (p := ⟨q, 1, none⟩) hq hne).trans h.c1, fun o => (hk.frozen (p := ⟨q, o, none⟩) hq hne).trans (h.z o), own_rk h.own hk (by have := h.qw; have := h.bw; omega), (hk.cell (p := ⟨w.heap.size, 0, none⟩) hpd hpb).trans h.p0, (hk.cell (p := ⟨w.heap.size, 1, none⟩) hpd hpb).trans h.p1, fun o => (hk.frozen (p := ⟨w.heap.size, o, none⟩) hpd hpb).trans (h.pz o), h.qw, h.bw⟩
theorem ES.below {w D D2 : World} {b q : Nat} {sf : List UInt8} {v : Value} {l : List A} {r : List UInt8} (h : ES B w D b q sf v l r) (hb : Below D.heap.size D D2) : ES B w D2 b q sf v l r :=
  h.rk2 (rk_below hb) (h.rd.below hb)
/-- behind the append, and the store -/
theorem ES.put {w D D2 : World} {b q g cap : Nat} {sf : List UInt8} {v : Value} {l : List A} {c : A} {r : List UInt8} (h : ES B w D b q sf v l r) (hown : D2.ownsRow (q + 1) 76 6 (.slice (some ⟨g, 0, none⟩) (l.length + 1) cap) (l.length + 1) (flatE l ++ flatE [c])) (hgrow : D.grownBy D2 v.ownBlock) :
    (D2.cell? ⟨q, 1, none⟩ = some v ∧ D2.frozen? ⟨q, 1, none⟩ = false) ∧ ES B w (D2.setCell ⟨q, 1, none⟩ (.slice (some ⟨g, 0, none⟩) (l.length + 1) cap)) b q sf (.slice (some ⟨g, 0, none⟩) (l.length + 1) cap) (l ++ [c]) r := by
  have hq := h.qlt
  have hrow : ∀ k, v.ownBlock = some k → q + 1 ≤ k := fun k hk => (h.own.lt k hk).1
  have hne : some q ≠ v.ownBlock := fun e => by have := hrow q e.symm; omega
  have hc0 := (hgrow.cell_far ⟨q, 0, none⟩ hq hne).trans h.c0
  have hc1 := (hgrow.cell_far ⟨q, 1, none⟩ hq hne).trans h.c1
  have hz := fun o => (hgrow.frozen_far ⟨q, o, none⟩ hq hne).trans (h.z o)
  have hbw := h.bw
  have hqw := h.qw
  have hbel : Below (q + 1) D D2 := Below.grown (Below.refl _ _) hgrow (by omega) hrow
  have hpd : w.heap.size < D.heap.size := World.block_lt_of_cell? _ _ h.p0
  have hpne : some w.heap.size ≠ v.ownBlock := fun e => by have := hrow _ e.symm; omega
  have hfar : ∀ o u, (D2.setCell ⟨q, 1, none⟩ u).cell? ⟨w.heap.size, o, none⟩ = D2.cell? ⟨w.heap.size, o, none⟩ := fun o u => World.cell?_setCell_other _ _ _ _ (by intro e; injection e with e1; omega)
  refine ⟨⟨hc1, hz 1⟩, ?_, ?_, ?_, ?_, ?_, ?_, (hfar 0 _).trans ((hgrow.cell_far ⟨w.heap.size, 0, none⟩ hpd hpne).trans h.p0), (hfar 1 _).trans ((hgrow.cell_far ⟨w.heap.size, 1, none⟩ hpd hpne).trans h.p1), fun o => by simpa using (hgrow.frozen_far ⟨w.heap.size, o, none⟩ hpd hpne).trans (h.pz o), hqw, hbw⟩
  · exact rd_far (h.rd.low (hbel.mono (by omega))) (by omega)
  · exact rk_far ⟨hgrow.os.trans h.rk.os, hgrow.tape.trans h.rk.tape, hgrow.output.trans h.rk.output, Nat.le_trans h.rk.size hgrow.size, fun p hp hne2 => (hgrow.block p (Nat.lt_of_lt_of_le hp h.rk.size) (fun e => by have := hrow p e.symm; omega)).trans (h.rk.block p hp hne2)⟩ (Nat.le_of_lt hqw)
  · exact (World.cell?_setCell_other _ _ _ _ (by intro e; injection e with _ e2; exact absurd e2 (by decide))).trans hc0
  · exact World.cell?_setCell_same _ _ _ hc1
  · intro o; simpa using hz o
  · have := ownsRow_setCell_below hown (a := ⟨q, 1, none⟩) (Nat.lt_succ_self q) (.slice (some ⟨g, 0, none⟩) (l.length + 1) cap)
    simpa [flatE] using this
theorem attrs_keep {W W2 : World} {a0 : Option Addr} {l : List A} (h : Attrs W a0 l) (hk : ∀ a, a0 = some a → ∀ p : Addr, p.block = a.block → p.block < W.heap.size → W2.cell? p = W.cell? p) : Attrs W2 a0 l := by
  intro i hi
  obtain ⟨a, e, h0, h1, h2, h3, h4, h5⟩ := h i hi
  have hab : (a.add (i * 6)).block = a.block := by unfold Addr.add; split <;> rfl
  have k := fun {p : Addr} {v : Value} (hp : p.block = a.block) (hc : W.cell? p = some v) => (hk a e p hp (World.block_lt_of_cell? _ _ hc)).trans hc
  exact ⟨a, e, k hab h0, k hab h1, k hab h2, k hab h3, k hab h4, k hab h5⟩
theorem back_small (x : Nat) (hx : x < 18446744073709551616) : (Ord.back x).1 < 18446744073709551616 := by
  unfold Ord.back
  split
  · decide
  · split
    · show 0 < 18446744073709551616; decide
    · exact Ord.backB_lt hx
/-- what is read is small -/
theorem decVal_small {s r : List UInt8} {v : V} (h : decVal s = some (v, r)) : v.text.length ≤ 40 ∧ v.num < 18446744073709551616 := by
  cases s with
  | nil => cases h
  | cons c t =>
    rw [decVal_cons] at h
    split at h
    · split at h
      · cases h
      · injection h with h; injection h with h1 h2; subst h1; exact ⟨by simp, Nat.zero_lt_of_lt (show 0 < 18446744073709551616 from by decide)⟩
    · split at h
      · split at h
        · cases h
        · rename_i x r2 hd
          split at h
          · injection h with h; injection h with h1 h2; subst h1
            refine ⟨by simp, ?_⟩
            have hx := (decLong_enc hd).2
            rcases back_small x hx with hb
            exact hb
          · cases h
      · split at h
        · split at h
          · cases h
          · split at h
            · rename_i hu
              injection h with h; injection h with h1 h2; subst h1; exact ⟨hu, Nat.zero_lt_of_lt (show 0 < 18446744073709551616 from by decide)⟩
            · cases h
        · split at h
          · split at h
            · cases h
            · split at h
              · injection h with h; injection h with h1 h2; subst h1; exact ⟨by simp, Nat.zero_lt_of_lt (show 0 < 18446744073709551616 from by decide)⟩
              · cases h
          · cases h
theorem decMany_all {α : Type} {f : List UInt8 → Option (α × List UInt8)} {Q : α → Prop} (hf : ∀ s a t, f s = some (a, t) → Q a) : ∀ (n : Nat) (s : List UInt8) (l : List α) (r : List UInt8), decMany f n s = some (l, r) → ∀ a ∈ l, Q a
  | 0, s, l, r, h => by
    unfold decMany at h
    injection h with h; injection h with h1 h2; subst h1
    intro a ha; cases ha
  | n + 1, s, l, r, h => by
    unfold decMany at h
    cases h1 : f s with
    | none => rw [h1] at h; cases h
    | some p =>
      obtain ⟨a, t⟩ := p
      rw [h1] at h
      dsimp only at h
      cases h2 : decMany f n t with
      | none => rw [h2] at h; cases h
      | some q =>
        obtain ⟨l2, r2⟩ := q
        rw [h2] at h
        injection h with h; injection h with h3 h4; subst h3
        intro x hx
        rcases List.mem_cons.1 hx with rfl | hx
        · exact hf _ _ _ h1
        · exact decMany_all hf n t l2 r2 h2 x hx
theorem decAttr_small {s r : List UInt8} {a : A} (h : decAttr s = some (a, r)) : a.name.length < 256 ∧ a.val.text.length ≤ 40 ∧ a.val.num < 18446744073709551616 := by
  unfold decAttr at h
  cases h1 : decText s with
  | none => rw [h1] at h; cases h
  | some p =>
    obtain ⟨nm, t⟩ := p
    rw [h1] at h
    dsimp only at h
    cases h2 : decVal t with
    | none => rw [h2] at h; cases h
    | some q =>
      obtain ⟨v, r2⟩ := q
      rw [h2] at h
      injection h with h; injection h with h3 h4; subst h3
      exact ⟨(decText_enc h1).2, decVal_small h2⟩
theorem attrs_small {n : Nat} {s r : List UInt8} {l : List A} (h : decMany decAttr n s = some (l, r)) : ∀ x ∈ l, x.name.length ≤ 140737488351232 ∧ x.val.text.length ≤ 140737488351232 := by
  intro x hx
  have := decMany_all (Q := fun a : A => a.name.length < 256 ∧ a.val.text.length ≤ 40 ∧ a.val.num < 18446744073709551616) (fun s a t h => decAttr_small h) n s l r h x hx
  omega
/-- what reading a filter tells -/
def TookE (B b : Nat) (w : World) (s : List UInt8) (e : Ending) (w' : World) : Prop :=
  (∃ (sf : List UInt8) (l : List A) (rest : List UInt8) (c0 : Option Addr) (cap : Nat), decEvent s = some ((sf, l), rest) ∧ e = .returned (ev sf c0 l.length cap) ∧ l.length ≤ cap ∧ Attrs w' c0 l ∧ (∀ a, c0 = some a → w.heap.size ≤ a.block) ∧ (c0 = none → cap = 0) ∧ RdAt w' b B rest ∧ RK b w w') ∨ (decEvent s = none ∧ e = shortP ∧ RK b w w')
theorem tooke_no {b : Nat} {w w' : World} {s : List UInt8} {e : Ending} (h1 : decEvent s = none) (h2 : e = shortP) (h3 : RK b w w') : TookE B b w s e w' := .inr ⟨h1, h2, h3⟩
theorem event_none {s t sf t2 : List UInt8} {c : UInt8} (h : decText s = some (sf, t)) (h2 : decByte t = some (c, t2)) (h3 : decMany decAttr c.toNat t2 = none) : decEvent s = none := by unfold decEvent; rw [h]; dsimp only; rw [h2]; dsimp only; rw [h3]
set_option maxRecDepth 20000 in
set_option maxHeartbeats 8000000 in
theorem revent_any (b : Nat) (s : List UInt8) (w : World) (h : RdAt w b B s) :
    Calls Try.prog 26 #[.pointer (some ⟨b, 0, none⟩)] w fun e w' => TookE B b w s e w' := by
  have hbw := h.lt
  have HH := Lib.hid (h.below (balloc w (.cells #[.string ⟨#[]⟩, .slice none 0 0] 31))); clear h
  obtain ⟨i0, hi, hz0, hz1, hz2⟩ := info_parts info_attrE
  go_enter Try.func26, Try.ntmps26
  go_wp2_with (first | (go_at_call 24; refine (rtext_any b s _ HH.out).mono ?_; rintro e w1 (⟨sf, t, hd, rfl, hr, hk⟩ | ⟨hd, rfl, hk⟩)) | (go_at_call 21; refine (rbyte_any b t _ (hr.below (balloc _ _))).mono ?_; rintro e w2 (⟨c, t2, hd2, rfl, hr2, hk2⟩ | ⟨hd2, rfl, hk2⟩)) | fail)
  rotate_left
  · exact ⟨rfl, tooke_no (by unfold decEvent; rw [hd]; dsimp only; rw [hd2]) rfl ((rk_below (balloc w _)).trans (hk.trans ((rk_below (balloc w1 _)).trans hk2)))⟩
  · exact ⟨rfl, tooke_no (by unfold decEvent; rw [hd]) rfl ((rk_below (balloc w _)).trans hk)⟩
  have hpw1 : w.heap.size < w1.heap.size := Nat.lt_of_lt_of_le (by simp) hk.size
  have hf0 : ES B w w2 b w1.heap.size sf (.slice none 0 0) [] t2 := by
    have hpa : ∀ o, w2.cell? ⟨w.heap.size, o, none⟩ = #[Value.string ⟨#[]⟩, .slice none 0 0][o]? := fun o => by
      rw [hk2.cell (p := ⟨w.heap.size, o, none⟩) (by simp; omega) (by simp; omega), World.cell?_alloc_lt _ _ _ hpw1, hk.cell (p := ⟨w.heap.size, o, none⟩) (by simp) (by simp; omega)]
      exact World.cell?_alloc_at _ _ _ _ rfl
    have hpz : ∀ o, w2.frozen? ⟨w.heap.size, o, none⟩ = false := fun o => by
      rw [hk2.frozen (p := ⟨w.heap.size, o, none⟩) (by simp; omega) (by simp; omega), World.frozen?_alloc_old w1 _ ⟨w.heap.size, o, none⟩ (Nat.ne_of_lt hpw1), hk.frozen (p := ⟨w.heap.size, o, none⟩) (by simp) (by simp; omega)]
      simp
    have hqa : ∀ o, w2.cell? ⟨w1.heap.size, o, none⟩ = #[Value.string ⟨sf.toArray⟩, .slice none 0 0][o]? := fun o => by
      rw [hk2.cell (p := ⟨w1.heap.size, o, none⟩) (by simp) (by simp; omega)]
      exact World.cell?_alloc_at _ _ _ _ rfl
    have hqz : ∀ o, w2.frozen? ⟨w1.heap.size, o, none⟩ = false := fun o => by
      rw [hk2.frozen (p := ⟨w1.heap.size, o, none⟩) (by simp) (by simp; omega)]
      simp
    exact ⟨hr2, (rk_below (balloc w _)).trans (hk.trans ((rk_below (balloc w1 _)).trans hk2)), hqa 0, hqa 1, hqz, World.ownsRow_nil _ _ _ _, hpa 0, hpa 1, hpz, hpw1, hbw⟩
  have HF0 := Lib.hid hf0
  clear hf0 hr hr2 hk hk2 HH
  generalize w1.heap.size = q at *
  have hc8 : c.toNat < 256 := c.toNat_lt
  have hdf : ∀ l r, decMany decAttr c.toNat t2 = some (l, r) → decEvent s = if rightL l then some ((sf, l), r) else none := fun l r h => by unfold decEvent; rw [hd]; dsimp only; rw [hd2]; dsimp only; rw [h]
  have hdn := fun h => event_none hd hd2 h
  have HDF := Lib.hid hdf; have HDN := Lib.hid hdn
  clear hdf hdn hd hd2
  generalize c.toNat = n at *
  generalize w2 = WE at *
  go_loopw [9] (fun vi wr => ∃ (k : Nat) (v : Value) (l : List A) (rest : List UInt8), k ≤ n ∧ vi = .int .i64 k ∧ l.length = k ∧ Hid (decMany decAttr n t2 = (decMany decAttr (n - k) rest).map fun p => (l ++ p.1, p.2)) ∧ Hid (ES B w wr b q sf v l rest)) (fun vi _ => n - (RowKit.intOf vi).toNat)
  case atStart => exact ⟨0, _, [], t2, Nat.zero_le _, rfl, rfl, Lib.hid (by simp), HF0⟩
  case round =>
    obtain ⟨k, v, l, rest, hk, rfl, hlk, HM, HF⟩ := hrel
    subst hlk
    by_cases hlt : l.length < n
    · have i1 : (l.length : Int) < (n : Int) := by omega
      go_upto_region 4 with fail
      clear HDF hbw
      refine wp_region_held_drew (S := fun _ => True) (by kernel_rfl) trivial (fun hq0 => ?_)
      replace HF := Lib.hid (HF.out.below (drew0 wr))
      generalize wr.drew = D0 at *
      (refine wpAnyH_take (i := 0) (oi := ?_) (v := ?_) ?_ (by kernel_rfl) (by kernel_rfl) (by kernel_rfl) ?_ (Or.inl ⟨?_, ?_⟩) (by assumption) ?_; rotate_left 2; (· (simp only [List.getElem?_toArray, List.getElem?_cons_zero]; first | done | rfl)); (· exact (fun _ _ _ h => h)); (· rfl); (· (intro w hSw; (try dsimp only at hSw); go_simp; (try with_reducible rfl))))
      (try simp only [Act.put, List.setIfInBounds_toArray, List.set_cons_zero, List.set_cons_succ])
      (refine wpAnyH_take (i := 2) (oi := ?_) (v := ?_) ?_ (by kernel_rfl) (by kernel_rfl) (by kernel_rfl) ?_ (Or.inl ⟨?_, ?_⟩) (by assumption) ?_; rotate_left 2; (· (simp only [List.getElem?_toArray, List.getElem?_cons_succ, List.getElem?_cons_zero]; first | done | rfl)); (· exact (fun _ _ _ h => h)); (· rfl); (· (intro w hSw; (try dsimp only at hSw); go_simp; (try with_reducible rfl))))
      (try simp only [Act.put, List.setIfInBounds_toArray, List.set_cons_zero, List.set_cons_succ])
      (refine wpAnyH_take (i := 4) (oi := ?_) (v := ?_) ?_ (by kernel_rfl) (by kernel_rfl) (by kernel_rfl) ?_ (Or.inl ⟨?_, ?_⟩) (by assumption) ?_; rotate_left 2; (· (simp only [List.getElem?_toArray, List.getElem?_cons_succ, List.getElem?_cons_zero]; first | done | rfl)); (· exact (fun _ _ _ h => h)); (· rfl); (· (intro w hSw; (try dsimp only at hSw); go_simp; (try with_reducible rfl))))
      (try simp only [Act.put, List.setIfInBounds_toArray, List.set_cons_zero, List.set_cons_succ])
      refine wpAnyH_ready (rs := [1, 3]) (by kernel_rfl) (by simp) ?_
      refine AllReadyH.cons (o := ?_) ?_ (fun K hK => ?_) ?_
      rotate_left 1
      · (simp only [List.getElem?_toArray, List.getElem?_cons_succ, List.getElem?_cons_zero]; first | done | rfl)
      rotate_left 1
      refine AllReadyH.cons (o := ?_) ?_ (fun K hK => ?_) AllReadyH.nil
      rotate_left 1
      · (simp only [List.getElem?_toArray, List.getElem?_cons_succ, List.getElem?_cons_zero]; first | done | rfl)
      rotate_left 1
      · skip
        obtain ⟨f0, f1, f2⟩ := HF.out.cells
        go_simp
        first | (refine hK.out _ _ trivial (fun hq1 => ?_)) | (go_wp2_with fail; refine hK.out _ _ trivial (fun hq1 => ?_))
        clear hK K
        (try simp only [Act.put, List.setIfInBounds_toArray, List.set_cons_zero, List.set_cons_succ])
        clear hq0
        clear f0 f1 f2
        refine wpAnyH_ready (rs := [3]) (by kernel_rfl) (by simp) ?_
        refine AllReadyH.cons (o := ?_) ?_ (fun K hK => ?_) AllReadyH.nil
        rotate_left 1
        · (simp only [List.getElem?_toArray, List.getElem?_cons_succ, List.getElem?_cons_zero]; first | done | rfl)
        go_simp
        go_at_call 24
        refine (rtext_any b _ D0 HF.out.rd).mono ?_
        rintro e D1 (⟨nm, t1, hd3, rfl, hr, hk⟩ | ⟨hd, rfl, hk⟩)
        rotate_left
        · clear hK
          go_wp2_with fail
          exact ⟨rfl, tooke_no (HDN.out (many_stop hlt HM.out (attr_none1 hd))) rfl (HF.out.rk.trans hk)⟩
        first | (refine hK.out _ _ trivial (fun hq2 => ?_)) | (go_wp2_with fail; refine hK.out _ _ trivial (fun hq2 => ?_))
        clear hK K
        clear hq1
        replace HF := Lib.hid (HF.out.rk2 hk hr)
        clear hk hr
        refine wpAnyH_ready (rs := [5]) (by kernel_rfl) (by simp) ?_
        refine AllReadyH.cons (o := ?_) ?_ (fun K hK => ?_) AllReadyH.nil
        rotate_left 1
        · (simp only [List.getElem?_toArray, List.getElem?_cons_succ, List.getElem?_cons_zero]; first | done | rfl)
        go_simp
        go_at_call 40
        refine (rvalue_any b _ D1 HF.out.rd).mono ?_
        rintro e D2 (⟨⟨k1, n1, x1, u1, y1⟩, t7, hd7, rfl, hr, hk⟩ | ⟨hd, rfl, hk⟩)
        rotate_left
        · clear hK
          go_wp2_with fail
          exact ⟨rfl, tooke_no (HDN.out (many_stop hlt HM.out (attr_none2 hd3 hd))) rfl (HF.out.rk.trans hk)⟩
        first | (refine hK.out _ _ trivial (fun hq3 => ?_)) | (go_wp2_with fail; refine hK.out _ _ trivial (fun hq3 => ?_))
        clear hK K
        clear hq2
        replace HF := Lib.hid (HF.out.rk2 hk hr)
        clear hk hr
        (refine wpAnyH_take (i := 6) (oi := ?_) (v := ?_) ?_ (by kernel_rfl) (by kernel_rfl) (by kernel_rfl) ?_ (Or.inl ⟨?_, ?_⟩) (by assumption) ?_; rotate_left 2; (· (simp only [List.getElem?_toArray, List.getElem?_cons_succ, List.getElem?_cons_zero]; first | done | rfl)); (· exact (fun _ _ _ h => h)); (· rfl); (· (intro w hSw; (try dsimp only at hSw); go_simp; (try with_reducible rfl))))
        (try simp only [Act.put, List.setIfInBounds_toArray, List.set_cons_zero, List.set_cons_succ])
        refine wpAnyH_ready (rs := [7]) (by kernel_rfl) (by simp) ?_
        refine AllReadyH.cons (o := ?_) ?_ (fun K hK => ?_) AllReadyH.nil
        rotate_left 1
        · (simp only [List.getElem?_toArray, List.getElem?_cons_succ, List.getElem?_cons_zero]; first | done | rfl)
        go_simp
        first | (refine hK.out _ _ trivial (fun hq4 => ?_)) | (go_wp2_with fail; refine hK.out _ _ trivial (fun hq4 => ?_))
        clear hK K
        (try simp only [Act.put, List.setIfInBounds_toArray, List.set_cons_zero, List.set_cons_succ])
        clear hq3
        have hnw := new_attrE D2 ⟨nm, ⟨k1, n1, x1, u1, y1⟩⟩ 76
        have hb := balloc D2 (.cells #[.string ⟨nm.toArray⟩, .int .i64 k1, .int .i64 n1, .float .f64 x1, .string ⟨u1.toArray⟩, .bool y1] 76)
        generalize hD : World.alloc D2 _ = D3 at *
        replace HF := Lib.hid (HF.out.below hb)
        have HSZ := Lib.hid hb.size
        have HNW := Lib.hid hnw
        clear hb hnw hD
        generalize D2.heap.size = pn at *
        refine wpAnyH_ready (rs := [8]) (by kernel_rfl) (by simp) ?_
        refine AllReadyH.cons (o := ?_) ?_ (fun K hK => ?_) AllReadyH.nil
        rotate_left 1
        · (simp only [List.getElem?_toArray, List.getElem?_cons_succ, List.getElem?_cons_zero]; first | done | rfl)
        refine wp_append_lies _ _ _ 29 rfl (q + 1) 76 i0 (.agg #[.string .empty, .int .i64 0, .int .i64 0, .float .f64 0, .string .empty, .bool false]) 6 64 Try.underlying29 hi hz0 hz1 hz2 rfl (by decide) v l.length (flatE l) rfl HF.out.own ⟨pn, 0, none⟩ 1 1 (flatE [⟨nm, ⟨k1, n1, x1, u1, y1⟩⟩]) rfl rfl HNW.out (flatE_one _) (by decide) (by unfold maxLen; omega) (by omega) (Nat.succ_le_of_lt HF.out.qlt) D3.heap.size rfl ?_
        intro g9 cap9 D4 hown9 hgrow9 hat9 hlt9
        first | (refine hK.out _ _ trivial (fun hq5 => ?_)) | (go_wp2_with fail; refine hK.out _ _ trivial (fun hq5 => ?_))
        clear hK K
        (try simp only [Act.put, List.setIfInBounds_toArray, List.set_cons_zero, List.set_cons_succ])
        clear hq4
        have HPUT := Lib.hid (HF.out.put (c := ⟨nm, ⟨k1, n1, x1, u1, y1⟩⟩) hown9 hgrow9); clear hown9 hgrow9 hat9 hlt9
        (refine wpAnyH_take (i := 9) (oi := ?_) (v := ?_) ?_ (by kernel_rfl) (by kernel_rfl) (by kernel_rfl) ?_ (Or.inl ⟨?_, ?_⟩) (by assumption) ?_; rotate_left 2; (· (simp only [List.getElem?_toArray, List.getElem?_cons_succ, List.getElem?_cons_zero]; first | done | rfl)); (· exact (fun _ _ _ h => h)); (· rfl); (· (intro w hSw; (try dsimp only at hSw); go_simp; (try with_reducible rfl))))
        (try simp only [Act.put, List.setIfInBounds_toArray, List.set_cons_zero, List.set_cons_succ])
        refine wpAnyH_ready (rs := [10]) (by kernel_rfl) (by simp) ?_
        refine AllReadyH.cons (o := ?_) ?_ (fun K hK => ?_) AllReadyH.nil
        rotate_left 1
        · (simp only [List.getElem?_toArray, List.getElem?_cons_succ, List.getElem?_cons_zero]; first | done | rfl)
        obtain ⟨⟨f1, f2⟩, hfs⟩ := HPUT.out
        go_simp
        first | (refine hK.out _ _ trivial (fun hq6 => ?_)) | (go_wp2_with fail; refine hK.out _ _ trivial (fun hq6 => ?_))
        clear hK K
        (try simp only [Act.put, List.setIfInBounds_toArray, List.set_cons_zero, List.set_cons_succ])
        clear hq5
        refine wpAnyH_done (by kernel_rfl) ?_ _
        go_wp2_with fail
        exact ⟨⟨l.length + 1, _, l ++ [⟨nm, ⟨k1, n1, x1, u1, y1⟩⟩], t7, by omega, by go_num, by simp, Lib.hid (many_next hlt HM.out (attr_some hd3 hd7)), Lib.hid hfs⟩, by simp [RowKit.intOf]; go_num⟩
      · skip
        go_simp
        go_at_call 24
        refine (rtext_any b _ D0 HF.out.rd).mono ?_
        rintro e D5 (⟨nm, t1, hd3, rfl, hr, hk⟩ | ⟨hd, rfl, hk⟩)
        rotate_left
        · clear hK
          go_wp2_with fail
          exact ⟨rfl, tooke_no (HDN.out (many_stop hlt HM.out (attr_none1 hd))) rfl (HF.out.rk.trans hk)⟩
        first | (refine hK.out _ _ trivial (fun hq1 => ?_)) | (go_wp2_with fail; refine hK.out _ _ trivial (fun hq1 => ?_))
        clear hK K
        clear hq0
        replace HF := Lib.hid (HF.out.rk2 hk hr)
        clear hk hr
        refine wpAnyH_ready (rs := [1, 5]) (by kernel_rfl) (by simp) ?_
        refine AllReadyH.cons (o := ?_) ?_ (fun K hK => ?_) ?_
        rotate_left 1
        · (simp only [List.getElem?_toArray, List.getElem?_cons_succ, List.getElem?_cons_zero]; first | done | rfl)
        rotate_left 1
        refine AllReadyH.cons (o := ?_) ?_ (fun K hK => ?_) AllReadyH.nil
        rotate_left 1
        · (simp only [List.getElem?_toArray, List.getElem?_cons_succ, List.getElem?_cons_zero]; first | done | rfl)
        rotate_left 1
        · skip
          obtain ⟨f0, f1, f2⟩ := HF.out.cells
          go_simp
          first | (refine hK.out _ _ trivial (fun hq2 => ?_)) | (go_wp2_with fail; refine hK.out _ _ trivial (fun hq2 => ?_))
          clear hK K
          (try simp only [Act.put, List.setIfInBounds_toArray, List.set_cons_zero, List.set_cons_succ])
          clear hq1
          clear f0 f1 f2
          refine wpAnyH_ready (rs := [5]) (by kernel_rfl) (by simp) ?_
          refine AllReadyH.cons (o := ?_) ?_ (fun K hK => ?_) AllReadyH.nil
          rotate_left 1
          · (simp only [List.getElem?_toArray, List.getElem?_cons_succ, List.getElem?_cons_zero]; first | done | rfl)
          go_simp
          go_at_call 40
          refine (rvalue_any b _ D5 HF.out.rd).mono ?_
          rintro e D6 (⟨⟨k1, n1, x1, u1, y1⟩, t7, hd7, rfl, hr, hk⟩ | ⟨hd, rfl, hk⟩)
          rotate_left
          · clear hK
            go_wp2_with fail
            exact ⟨rfl, tooke_no (HDN.out (many_stop hlt HM.out (attr_none2 hd3 hd))) rfl (HF.out.rk.trans hk)⟩
          first | (refine hK.out _ _ trivial (fun hq3 => ?_)) | (go_wp2_with fail; refine hK.out _ _ trivial (fun hq3 => ?_))
          clear hK K
          clear hq2
          replace HF := Lib.hid (HF.out.rk2 hk hr)
          clear hk hr
          (refine wpAnyH_take (i := 6) (oi := ?_) (v := ?_) ?_ (by kernel_rfl) (by kernel_rfl) (by kernel_rfl) ?_ (Or.inl ⟨?_, ?_⟩) (by assumption) ?_; rotate_left 2; (· (simp only [List.getElem?_toArray, List.getElem?_cons_succ, List.getElem?_cons_zero]; first | done | rfl)); (· exact (fun _ _ _ h => h)); (· rfl); (· (intro w hSw; (try dsimp only at hSw); go_simp; (try with_reducible rfl))))
          (try simp only [Act.put, List.setIfInBounds_toArray, List.set_cons_zero, List.set_cons_succ])
          refine wpAnyH_ready (rs := [7]) (by kernel_rfl) (by simp) ?_
          refine AllReadyH.cons (o := ?_) ?_ (fun K hK => ?_) AllReadyH.nil
          rotate_left 1
          · (simp only [List.getElem?_toArray, List.getElem?_cons_succ, List.getElem?_cons_zero]; first | done | rfl)
          go_simp
          first | (refine hK.out _ _ trivial (fun hq4 => ?_)) | (go_wp2_with fail; refine hK.out _ _ trivial (fun hq4 => ?_))
          clear hK K
          (try simp only [Act.put, List.setIfInBounds_toArray, List.set_cons_zero, List.set_cons_succ])
          clear hq3
          have hnw := new_attrE D6 ⟨nm, ⟨k1, n1, x1, u1, y1⟩⟩ 76
          have hb := balloc D6 (.cells #[.string ⟨nm.toArray⟩, .int .i64 k1, .int .i64 n1, .float .f64 x1, .string ⟨u1.toArray⟩, .bool y1] 76)
          generalize hD : World.alloc D6 _ = D7 at *
          replace HF := Lib.hid (HF.out.below hb)
          have HSZ := Lib.hid hb.size
          have HNW := Lib.hid hnw
          clear hb hnw hD
          generalize D6.heap.size = pn at *
          refine wpAnyH_ready (rs := [8]) (by kernel_rfl) (by simp) ?_
          refine AllReadyH.cons (o := ?_) ?_ (fun K hK => ?_) AllReadyH.nil
          rotate_left 1
          · (simp only [List.getElem?_toArray, List.getElem?_cons_succ, List.getElem?_cons_zero]; first | done | rfl)
          refine wp_append_lies _ _ _ 29 rfl (q + 1) 76 i0 (.agg #[.string .empty, .int .i64 0, .int .i64 0, .float .f64 0, .string .empty, .bool false]) 6 64 Try.underlying29 hi hz0 hz1 hz2 rfl (by decide) v l.length (flatE l) rfl HF.out.own ⟨pn, 0, none⟩ 1 1 (flatE [⟨nm, ⟨k1, n1, x1, u1, y1⟩⟩]) rfl rfl HNW.out (flatE_one _) (by decide) (by unfold maxLen; omega) (by omega) (Nat.succ_le_of_lt HF.out.qlt) D7.heap.size rfl ?_
          intro g9 cap9 D8 hown9 hgrow9 hat9 hlt9
          first | (refine hK.out _ _ trivial (fun hq5 => ?_)) | (go_wp2_with fail; refine hK.out _ _ trivial (fun hq5 => ?_))
          clear hK K
          (try simp only [Act.put, List.setIfInBounds_toArray, List.set_cons_zero, List.set_cons_succ])
          clear hq4
          have HPUT := Lib.hid (HF.out.put (c := ⟨nm, ⟨k1, n1, x1, u1, y1⟩⟩) hown9 hgrow9); clear hown9 hgrow9 hat9 hlt9
          (refine wpAnyH_take (i := 9) (oi := ?_) (v := ?_) ?_ (by kernel_rfl) (by kernel_rfl) (by kernel_rfl) ?_ (Or.inl ⟨?_, ?_⟩) (by assumption) ?_; rotate_left 2; (· (simp only [List.getElem?_toArray, List.getElem?_cons_succ, List.getElem?_cons_zero]; first | done | rfl)); (· exact (fun _ _ _ h => h)); (· rfl); (· (intro w hSw; (try dsimp only at hSw); go_simp; (try with_reducible rfl))))
          (try simp only [Act.put, List.setIfInBounds_toArray, List.set_cons_zero, List.set_cons_succ])
          refine wpAnyH_ready (rs := [10]) (by kernel_rfl) (by simp) ?_
          refine AllReadyH.cons (o := ?_) ?_ (fun K hK => ?_) AllReadyH.nil
          rotate_left 1
          · (simp only [List.getElem?_toArray, List.getElem?_cons_succ, List.getElem?_cons_zero]; first | done | rfl)
          obtain ⟨⟨f1, f2⟩, hfs⟩ := HPUT.out
          go_simp
          first | (refine hK.out _ _ trivial (fun hq6 => ?_)) | (go_wp2_with fail; refine hK.out _ _ trivial (fun hq6 => ?_))
          clear hK K
          (try simp only [Act.put, List.setIfInBounds_toArray, List.set_cons_zero, List.set_cons_succ])
          clear hq5
          refine wpAnyH_done (by kernel_rfl) ?_ _
          go_wp2_with fail
          exact ⟨⟨l.length + 1, _, l ++ [⟨nm, ⟨k1, n1, x1, u1, y1⟩⟩], t7, by omega, by go_num, by simp, Lib.hid (many_next hlt HM.out (attr_some hd3 hd7)), Lib.hid hfs⟩, by simp [RowKit.intOf]; go_num⟩
        · skip
          go_simp
          go_at_call 40
          refine (rvalue_any b _ D5 HF.out.rd).mono ?_
          rintro e D9 (⟨⟨k1, n1, x1, u1, y1⟩, t7, hd7, rfl, hr, hk⟩ | ⟨hd, rfl, hk⟩)
          rotate_left
          · clear hK
            go_wp2_with fail
            exact ⟨rfl, tooke_no (HDN.out (many_stop hlt HM.out (attr_none2 hd3 hd))) rfl (HF.out.rk.trans hk)⟩
          first | (refine hK.out _ _ trivial (fun hq2 => ?_)) | (go_wp2_with fail; refine hK.out _ _ trivial (fun hq2 => ?_))
          clear hK K
          clear hq1
          replace HF := Lib.hid (HF.out.rk2 hk hr)
          clear hk hr
          (refine wpAnyH_take (i := 6) (oi := ?_) (v := ?_) ?_ (by kernel_rfl) (by kernel_rfl) (by kernel_rfl) ?_ (Or.inl ⟨?_, ?_⟩) (by assumption) ?_; rotate_left 2; (· (simp only [List.getElem?_toArray, List.getElem?_cons_succ, List.getElem?_cons_zero]; first | done | rfl)); (· exact (fun _ _ _ h => h)); (· rfl); (· (intro w hSw; (try dsimp only at hSw); go_simp; (try with_reducible rfl))))
          (try simp only [Act.put, List.setIfInBounds_toArray, List.set_cons_zero, List.set_cons_succ])
          refine wpAnyH_ready (rs := [1, 7]) (by kernel_rfl) (by simp) ?_
          refine AllReadyH.cons (o := ?_) ?_ (fun K hK => ?_) ?_
          rotate_left 1
          · (simp only [List.getElem?_toArray, List.getElem?_cons_succ, List.getElem?_cons_zero]; first | done | rfl)
          rotate_left 1
          refine AllReadyH.cons (o := ?_) ?_ (fun K hK => ?_) AllReadyH.nil
          rotate_left 1
          · (simp only [List.getElem?_toArray, List.getElem?_cons_succ, List.getElem?_cons_zero]; first | done | rfl)
          rotate_left 1
          · skip
            obtain ⟨f0, f1, f2⟩ := HF.out.cells
            go_simp
            first | (refine hK.out _ _ trivial (fun hq3 => ?_)) | (go_wp2_with fail; refine hK.out _ _ trivial (fun hq3 => ?_))
            clear hK K
            (try simp only [Act.put, List.setIfInBounds_toArray, List.set_cons_zero, List.set_cons_succ])
            clear hq2
            clear f0 f1 f2
            refine wpAnyH_ready (rs := [7]) (by kernel_rfl) (by simp) ?_
            refine AllReadyH.cons (o := ?_) ?_ (fun K hK => ?_) AllReadyH.nil
            rotate_left 1
            · (simp only [List.getElem?_toArray, List.getElem?_cons_succ, List.getElem?_cons_zero]; first | done | rfl)
            go_simp
            first | (refine hK.out _ _ trivial (fun hq4 => ?_)) | (go_wp2_with fail; refine hK.out _ _ trivial (fun hq4 => ?_))
            clear hK K
            (try simp only [Act.put, List.setIfInBounds_toArray, List.set_cons_zero, List.set_cons_succ])
            clear hq3
            have hnw := new_attrE D9 ⟨nm, ⟨k1, n1, x1, u1, y1⟩⟩ 76
            have hb := balloc D9 (.cells #[.string ⟨nm.toArray⟩, .int .i64 k1, .int .i64 n1, .float .f64 x1, .string ⟨u1.toArray⟩, .bool y1] 76)
            generalize hD : World.alloc D9 _ = D10 at *
            replace HF := Lib.hid (HF.out.below hb)
            have HSZ := Lib.hid hb.size
            have HNW := Lib.hid hnw
            clear hb hnw hD
            generalize D9.heap.size = pn at *
            refine wpAnyH_ready (rs := [8]) (by kernel_rfl) (by simp) ?_
            refine AllReadyH.cons (o := ?_) ?_ (fun K hK => ?_) AllReadyH.nil
            rotate_left 1
            · (simp only [List.getElem?_toArray, List.getElem?_cons_succ, List.getElem?_cons_zero]; first | done | rfl)
            refine wp_append_lies _ _ _ 29 rfl (q + 1) 76 i0 (.agg #[.string .empty, .int .i64 0, .int .i64 0, .float .f64 0, .string .empty, .bool false]) 6 64 Try.underlying29 hi hz0 hz1 hz2 rfl (by decide) v l.length (flatE l) rfl HF.out.own ⟨pn, 0, none⟩ 1 1 (flatE [⟨nm, ⟨k1, n1, x1, u1, y1⟩⟩]) rfl rfl HNW.out (flatE_one _) (by decide) (by unfold maxLen; omega) (by omega) (Nat.succ_le_of_lt HF.out.qlt) D10.heap.size rfl ?_
            intro g9 cap9 D11 hown9 hgrow9 hat9 hlt9
            first | (refine hK.out _ _ trivial (fun hq5 => ?_)) | (go_wp2_with fail; refine hK.out _ _ trivial (fun hq5 => ?_))
            clear hK K
            (try simp only [Act.put, List.setIfInBounds_toArray, List.set_cons_zero, List.set_cons_succ])
            clear hq4
            have HPUT := Lib.hid (HF.out.put (c := ⟨nm, ⟨k1, n1, x1, u1, y1⟩⟩) hown9 hgrow9); clear hown9 hgrow9 hat9 hlt9
            (refine wpAnyH_take (i := 9) (oi := ?_) (v := ?_) ?_ (by kernel_rfl) (by kernel_rfl) (by kernel_rfl) ?_ (Or.inl ⟨?_, ?_⟩) (by assumption) ?_; rotate_left 2; (· (simp only [List.getElem?_toArray, List.getElem?_cons_succ, List.getElem?_cons_zero]; first | done | rfl)); (· exact (fun _ _ _ h => h)); (· rfl); (· (intro w hSw; (try dsimp only at hSw); go_simp; (try with_reducible rfl))))
            (try simp only [Act.put, List.setIfInBounds_toArray, List.set_cons_zero, List.set_cons_succ])
            refine wpAnyH_ready (rs := [10]) (by kernel_rfl) (by simp) ?_
            refine AllReadyH.cons (o := ?_) ?_ (fun K hK => ?_) AllReadyH.nil
            rotate_left 1
            · (simp only [List.getElem?_toArray, List.getElem?_cons_succ, List.getElem?_cons_zero]; first | done | rfl)
            obtain ⟨⟨f1, f2⟩, hfs⟩ := HPUT.out
            go_simp
            first | (refine hK.out _ _ trivial (fun hq6 => ?_)) | (go_wp2_with fail; refine hK.out _ _ trivial (fun hq6 => ?_))
            clear hK K
            (try simp only [Act.put, List.setIfInBounds_toArray, List.set_cons_zero, List.set_cons_succ])
            clear hq5
            refine wpAnyH_done (by kernel_rfl) ?_ _
            go_wp2_with fail
            exact ⟨⟨l.length + 1, _, l ++ [⟨nm, ⟨k1, n1, x1, u1, y1⟩⟩], t7, by omega, by go_num, by simp, Lib.hid (many_next hlt HM.out (attr_some hd3 hd7)), Lib.hid hfs⟩, by simp [RowKit.intOf]; go_num⟩
          · skip
            go_simp
            first | (refine hK.out _ _ trivial (fun hq3 => ?_)) | (go_wp2_with fail; refine hK.out _ _ trivial (fun hq3 => ?_))
            clear hK K
            (try simp only [Act.put, List.setIfInBounds_toArray, List.set_cons_zero, List.set_cons_succ])
            clear hq2
            have hnw := new_attrE D9 ⟨nm, ⟨k1, n1, x1, u1, y1⟩⟩ 76
            have hb := balloc D9 (.cells #[.string ⟨nm.toArray⟩, .int .i64 k1, .int .i64 n1, .float .f64 x1, .string ⟨u1.toArray⟩, .bool y1] 76)
            generalize hD : World.alloc D9 _ = D12 at *
            replace HF := Lib.hid (HF.out.below hb)
            have HSZ := Lib.hid hb.size
            have HNW := Lib.hid hnw
            clear hb hnw hD
            generalize D9.heap.size = pn at *
            refine wpAnyH_ready (rs := [1]) (by kernel_rfl) (by simp) ?_
            refine AllReadyH.cons (o := ?_) ?_ (fun K hK => ?_) AllReadyH.nil
            rotate_left 1
            · (simp only [List.getElem?_toArray, List.getElem?_cons_succ, List.getElem?_cons_zero]; first | done | rfl)
            obtain ⟨f0, f1, f2⟩ := HF.out.cells
            go_simp
            first | (refine hK.out _ _ trivial (fun hq4 => ?_)) | (go_wp2_with fail; refine hK.out _ _ trivial (fun hq4 => ?_))
            clear hK K
            (try simp only [Act.put, List.setIfInBounds_toArray, List.set_cons_zero, List.set_cons_succ])
            clear hq3
            clear f0 f1 f2
            refine wpAnyH_ready (rs := [8]) (by kernel_rfl) (by simp) ?_
            refine AllReadyH.cons (o := ?_) ?_ (fun K hK => ?_) AllReadyH.nil
            rotate_left 1
            · (simp only [List.getElem?_toArray, List.getElem?_cons_succ, List.getElem?_cons_zero]; first | done | rfl)
            refine wp_append_lies _ _ _ 29 rfl (q + 1) 76 i0 (.agg #[.string .empty, .int .i64 0, .int .i64 0, .float .f64 0, .string .empty, .bool false]) 6 64 Try.underlying29 hi hz0 hz1 hz2 rfl (by decide) v l.length (flatE l) rfl HF.out.own ⟨pn, 0, none⟩ 1 1 (flatE [⟨nm, ⟨k1, n1, x1, u1, y1⟩⟩]) rfl rfl HNW.out (flatE_one _) (by decide) (by unfold maxLen; omega) (by omega) (Nat.succ_le_of_lt HF.out.qlt) D12.heap.size rfl ?_
            intro g9 cap9 D13 hown9 hgrow9 hat9 hlt9
            first | (refine hK.out _ _ trivial (fun hq5 => ?_)) | (go_wp2_with fail; refine hK.out _ _ trivial (fun hq5 => ?_))
            clear hK K
            (try simp only [Act.put, List.setIfInBounds_toArray, List.set_cons_zero, List.set_cons_succ])
            clear hq4
            have HPUT := Lib.hid (HF.out.put (c := ⟨nm, ⟨k1, n1, x1, u1, y1⟩⟩) hown9 hgrow9); clear hown9 hgrow9 hat9 hlt9
            (refine wpAnyH_take (i := 9) (oi := ?_) (v := ?_) ?_ (by kernel_rfl) (by kernel_rfl) (by kernel_rfl) ?_ (Or.inl ⟨?_, ?_⟩) (by assumption) ?_; rotate_left 2; (· (simp only [List.getElem?_toArray, List.getElem?_cons_succ, List.getElem?_cons_zero]; first | done | rfl)); (· exact (fun _ _ _ h => h)); (· rfl); (· (intro w hSw; (try dsimp only at hSw); go_simp; (try with_reducible rfl))))
            (try simp only [Act.put, List.setIfInBounds_toArray, List.set_cons_zero, List.set_cons_succ])
            refine wpAnyH_ready (rs := [10]) (by kernel_rfl) (by simp) ?_
            refine AllReadyH.cons (o := ?_) ?_ (fun K hK => ?_) AllReadyH.nil
            rotate_left 1
            · (simp only [List.getElem?_toArray, List.getElem?_cons_succ, List.getElem?_cons_zero]; first | done | rfl)
            obtain ⟨⟨f1, f2⟩, hfs⟩ := HPUT.out
            go_simp
            first | (refine hK.out _ _ trivial (fun hq6 => ?_)) | (go_wp2_with fail; refine hK.out _ _ trivial (fun hq6 => ?_))
            clear hK K
            (try simp only [Act.put, List.setIfInBounds_toArray, List.set_cons_zero, List.set_cons_succ])
            clear hq5
            refine wpAnyH_done (by kernel_rfl) ?_ _
            go_wp2_with fail
            exact ⟨⟨l.length + 1, _, l ++ [⟨nm, ⟨k1, n1, x1, u1, y1⟩⟩], t7, by omega, by go_num, by simp, Lib.hid (many_next hlt HM.out (attr_some hd3 hd7)), Lib.hid hfs⟩, by simp [RowKit.intOf]; go_num⟩
    · have i1 : ¬ (l.length : Int) < (n : Int) := by omega
      obtain rfl : n = l.length := by omega
      have hdec := HDF.out _ _ (many_end HM.out)
      have HDEC := Lib.hid hdec
      obtain ⟨f0, f1, f2⟩ := HF.out.cells
      obtain ⟨a0, cap, rfl, hcap, hcn, hcs, hbl⟩ := own_attrsE HF.out.own
      have x0 := HF.out.p0; have x1 := HF.out.p1; have xz := HF.out.pz
      have hpw := HF.out.qw
      have HM2 := Lib.hid (many_end HM.out)
      clear HM HDN HDF hdec
      have hlen : ∀ x ∈ l, x.name.length ≤ 140737488351232 ∧ x.val.text.length ≤ 140737488351232 := attrs_small HM2.out
      have her := fun W (hb : Below wr.heap.size wr W) => eright_any sf a0 cap l W (hcs.below hb) (by omega) hlen
      have HER := Lib.hid her; clear her hlen
      cases hR : rightL l
      · rw [hR] at HER HDEC
        go_wp2_with (first | (go_at_call 36; refine (HER.out _ (Below.refl _ _)).mono ?_; rintro e w9 ⟨rfl, hb9⟩) | fail)
        exact ⟨rfl, tooke_no HDEC.out rfl (HF.out.rk.trans (rk_below hb9))⟩
      rw [hR] at HER HDEC
      go_wp2_with (first | (go_at_call 36; refine (HER.out _ (Below.refl _ _)).mono ?_; rintro e w9 ⟨rfl, hb9⟩; obtain ⟨g0, g1, g2⟩ := (HF.out.below hb9).cells; have z0 := (HF.out.below hb9).p0; have z1 := (HF.out.below hb9).p1; have zz := (HF.out.below hb9).pz) | fail)
      have hend := HF.out.below hb9
      have hcs9 := hcs.below hb9
      obtain ⟨e0, e1⟩ := set2W w9 w.heap.size (.string ⟨sf.toArray⟩) (.slice a0 l.length cap) (by rw [z0]; rfl) (by rw [z1]; rfl)
      refine bodyPost_ret (v := ev sf a0 l.length cap) (by simp [results, Try.results26, go_sem, e0, e1]; try rfl) rfl ?_
      refine .inl ⟨sf, l, rest, a0, cap, HDEC.out, rfl, hcap, ?_, fun a e => by have := hbl a e; omega, hcn, rd_far (rd_far hend.rd hend.bw) hend.bw, rk_far (rk_far hend.rk (Nat.le_refl _)) (Nat.le_refl _)⟩
      exact attrs_keep hcs9 (fun a e p hp _ => (World.cell?_setCell_other _ _ _ _ (by intro e2; have := hbl a e; rw [← e2] at hp; simp at hp; omega)).trans (World.cell?_setCell_other _ _ _ _ (by intro e2; have := hbl a e; rw [← e2] at hp; simp at hp; omega)))
end Go.Proofs.Ytpbdgbejcdncgaa.Wire
end
