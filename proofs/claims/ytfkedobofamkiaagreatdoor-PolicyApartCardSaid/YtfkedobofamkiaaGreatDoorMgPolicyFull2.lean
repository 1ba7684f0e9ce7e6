/- MERGED BY A PROGRAM OF MINE (mg.py) out of my own texts, in their order: PolMem, PolRead, PolRight, PolChk, PolChkB, Sort1, SortFn. -/
import Derived.Test.YtfkedobofamkiaaGreatDoorMgPolicyFull1
import Derived.Maps.AppendAt
import Derived.Deep.RegionHeld3
import Derived.Test.YtfkedobofamkiaaGreatDoorCPrint
import Derived.Laws.AppendOwn

section
/- RULES IN MEMORY: eight cells each; a log: a box that holds a row of its own. -/
namespace Go.Proofs.YtfkedobofamkiaaGreatDoor.Pol
open Go.RowKit Flt Go.Proofs.YtfkedobofamkiaaGreatDoor.Val
/-- a rule: what plays a part, and the rest -/
structure R where
  k : K
  br : Int
  sc : List UInt8
  c0 : Option Addr
  cn : Nat
  cc : Nat
  nm : List UInt8
instance : Inhabited R := ⟨⟨default, 0, [], none, 0, 0, []⟩⟩
abbrev rul (kd tn : Int) (who : List UInt8) (br : Int) (sc : List UInt8) (c0 : Option Addr) (cn cc : Nat) (nm : List UInt8) (pl : Int) : Value :=
  .agg #[.int .i64 kd, .int .i64 tn, .string ⟨who.toArray⟩, .int .i64 br, .string ⟨sc.toArray⟩, .slice c0 cn cc, .string ⟨nm.toArray⟩, .int .i64 pl]
abbrev rv (r : R) : Value := rul r.k.kind r.k.tenant r.k.who r.br r.sc r.c0 r.cn r.cc r.nm r.k.pl
def cells8 (r : R) : List Value := [.int .i64 r.k.kind, .int .i64 r.k.tenant, .string ⟨r.k.who.toArray⟩, .int .i64 r.br, .string ⟨r.sc.toArray⟩, .slice r.c0 r.cn r.cc, .string ⟨r.nm.toArray⟩, .int .i64 r.k.pl]
def flatR (l : List R) : List Value := l.flatMap cells8
theorem flatR_len (l : List R) : (flatR l).length = l.length * 8 := by
  induction l with
  | nil => rfl
  | cons v l ih => unfold flatR at *; rw [List.flatMap_cons, List.length_append, ih]; simp [cells8]; omega
theorem flatR_at : ∀ (l : List R) (i j : Nat) (hi : i < l.length), j < 8 → (flatR l)[i * 8 + j]? = (cells8 l[i])[j]?
  | v :: l, 0, j, _, hj => by
    unfold flatR; rw [List.flatMap_cons, List.getElem?_append_left (by simp [cells8]; omega)]; simp
  | v :: l, i + 1, j, hi, hj => by
    unfold flatR; rw [List.flatMap_cons, List.getElem?_append_right (by simp [cells8]; omega)]
    have e : (i + 1) * 8 + j - (cells8 v).length = i * 8 + j := by simp [cells8]; omega
    rw [e]
    exact flatR_at l i j (by simpa using hi) hj
theorem flatR_one (l : List R) : ∀ u ∈ flatR l, u.oneCell' = true := by
  intro u hu
  obtain ⟨v, _, hv⟩ := List.mem_flatMap.1 hu
  simp only [cells8, List.mem_cons, List.not_mem_nil, or_false] at hv
  rcases hv with rfl | rfl | rfl | rfl | rfl | rfl | rfl | rfl <;> rfl
theorem flatR_app (l : List R) (a : R) : flatR (l ++ [a]) = flatR l ++ flatR [a] := by simp [flatR]
def RAt (w : World) (p : Addr) (r : R) : Prop :=
  w.cell? p = some (.int .i64 r.k.kind) ∧ w.cell? ⟨p.block, p.off + 1, none⟩ = some (.int .i64 r.k.tenant) ∧ w.cell? ⟨p.block, p.off + 2, none⟩ = some (.string ⟨r.k.who.toArray⟩) ∧ w.cell? ⟨p.block, p.off + 3, none⟩ = some (.int .i64 r.br) ∧ w.cell? ⟨p.block, p.off + 4, none⟩ = some (.string ⟨r.sc.toArray⟩) ∧ w.cell? ⟨p.block, p.off + 5, none⟩ = some (.slice r.c0 r.cn r.cc) ∧ w.cell? ⟨p.block, p.off + 6, none⟩ = some (.string ⟨r.nm.toArray⟩) ∧ w.cell? ⟨p.block, p.off + 7, none⟩ = some (.int .i64 r.k.pl)
theorem RAt.below {w w2 : World} {p : Addr} {r : R} (h : RAt w p r) (hb : Below w.heap.size w w2) : RAt w2 p r := by
  obtain ⟨h0, h1, h2, h3, h4, h5, h6, h7⟩ := h
  have e : ∀ {q : Addr} {v : Value}, w.cell? q = some v → w2.cell? q = some v := fun h => (hb.cell (World.block_lt_of_cell? _ _ h)).trans h
  exact ⟨e h0, e h1, e h2, e h3, e h4, e h5, e h6, e h7⟩
def Rules (w : World) (a0 : Option Addr) (l : List R) : Prop := ∀ i (h : i < l.length), ∃ a, a0 = some a ∧ RAt w (a.add (i * 8)) l[i]
theorem Rules.below {w w2 : World} {a0 : Option Addr} {l : List R} (h : Rules w a0 l) (hb : Below w.heap.size w w2) : Rules w2 a0 l := fun i hi => by
  obtain ⟨a, e, h1⟩ := h i hi
  exact ⟨a, e, h1.below hb⟩
theorem own_rules {w : World} {v : Value} {l : List R} {base : Nat} (h : w.ownsRow base 33 8 v l.length (flatR l)) :
    ∃ b0 cap, v = .slice b0 l.length cap ∧ Rules w b0 l := by
  rcases h.2 with ⟨rfl, h0⟩ | ⟨g, cp, cur, rfl, hb, hg, hh⟩
  · have : l = [] := List.eq_nil_of_length_eq_zero h0
    subst this
    exact ⟨none, 0, rfl, fun i hi => absurd hi (Nat.not_lt_zero _)⟩
  · refine ⟨some ⟨g, 0, none⟩, cp, rfl, fun i hi => ⟨_, rfl, ?_⟩⟩
    have k : ∀ j (hj : j < 8), w.cell? ⟨g, i * 8 + j, none⟩ = (cells8 l[i])[j]? := by
      intro j hj
      have hm := flatR_at l i j hi hj
      have hc : (cells8 l[i])[j]? = some ((cells8 l[i])[j]'(by simpa [cells8] using hj)) := by simp
      rw [hc] at hm ⊢
      have := h.cells rfl (i * 8 + j) _ hm
      have hadd : (⟨g, 0, none⟩ : Addr).add (i * 8 + j) = ⟨g, i * 8 + j, none⟩ := by unfold Addr.add; split <;> simp_all
      rw [← hadd]; exact this
    have hadd : (⟨g, 0, none⟩ : Addr).add (i * 8) = ⟨g, i * 8, none⟩ := by unfold Addr.add; split <;> simp_all
    rw [hadd]
    exact ⟨k 0 (by omega), k 1 (by omega), k 2 (by omega), k 3 (by omega), k 4 (by omega), k 5 (by omega), k 6 (by omega), k 7 (by omega)⟩
/-- a log at a box, as it is read -/
def Log (w : World) (b : Nat) (a0 : Option Addr) (cap : Nat) (l : List R) : Prop := w.cell? ⟨b, 0, none⟩ = some (.slice a0 l.length cap) ∧ Rules w a0 l
theorem Log.below {w w2 : World} {b : Nat} {a0 : Option Addr} {cap : Nat} {l : List R} (h : Log w b a0 cap l) (hb : Below w.heap.size w w2) : Log w2 b a0 cap l :=
  ⟨(hb.cell (World.block_lt_of_cell? _ _ h.1)).trans h.1, h.2.below hb⟩
theorem Log.lt {w : World} {b : Nat} {a0 : Option Addr} {cap : Nat} {l : List R} (h : Log w b a0 cap l) : b < w.heap.size := World.block_lt_of_cell? _ _ h.1
def ks (l : List R) : List K := l.map R.k
theorem ks_len (l : List R) : (ks l).length = l.length := by simp [ks]
theorem ks_take (l : List R) (n : Nat) : ks (l.take n) = (ks l).take n := by simp [ks, List.map_take]
theorem ks_app (l m : List R) : ks (l ++ m) = ks l ++ ks m := by simp [ks]
theorem ks_get (l : List R) (i : Nat) (h : i < l.length) : (ks l)[i]! = l[i].k := by
  rw [getElem!_pos (ks l) i (by rw [ks_len]; exact h)]
  simp [ks]
end Go.Proofs.YtfkedobofamkiaaGreatDoor.Pol
end

section
/- THE WALKS that read a log: of, Home, people, gone, Len. -/
namespace Go.Proofs.YtfkedobofamkiaaGreatDoor.Pol
open Go.RowKit Flt Go.Proofs.YtfkedobofamkiaaGreatDoor.Val
attribute [local go_sem] run_store_flt
set_option maxHeartbeats 1000000 in
theorem of_any (k2 t2 : Int) (w2 : List UInt8) (r : R) (w : World) :
    Calls Tryz.prog 20 #[rv r, .int .i64 k2, .int .i64 t2, .string ⟨w2.toArray⟩] w fun e w' => e = .returned (.bool (r.k.kind == k2 && r.k.tenant == t2 && r.k.who == w2)) ∧ Below w.heap.size w w' := by
  obtain ⟨⟨kd, tn, who, pl⟩, br, sc, c0, cn, cc, nm⟩ := r
  dsimp only
  cases h1 : (kd == k2)
  · go_enter Tryz.func20, Tryz.ntmps20
    go_wp2_with fail
    go_ret
    exact ⟨rfl, by repeat (first | assumption | (with_reducible exact Below.refl _ _) | exact balloc _ _ | exact balloc2 _ _ _ | refine btrans ?_ (by assumption) | refine btrans ?_ (balloc _ _))⟩
  cases h2 : (tn == t2)
  · go_enter Tryz.func20, Tryz.ntmps20
    go_wp2_with fail
    go_ret
    exact ⟨rfl, by repeat (first | assumption | (with_reducible exact Below.refl _ _) | exact balloc _ _ | exact balloc2 _ _ _ | refine btrans ?_ (by assumption) | refine btrans ?_ (balloc _ _))⟩
  cases h3 : (who == w2)
  all_goals
    go_enter Tryz.func20, Tryz.ntmps20
    go_wp2_with fail
    go_ret
    exact ⟨rfl, by repeat (first | assumption | (with_reducible exact Below.refl _ _) | exact balloc _ _ | exact balloc2 _ _ _ | refine btrans ?_ (by assumption) | refine btrans ?_ (balloc _ _))⟩
theorem any_take_succ (p : K → Bool) (l : List K) (k : Nat) (h : k < l.length) : (l.take (k + 1)).any p = ((l.take k).any p || p l[k]!) := by
  rw [getElem!_pos l k h, List.take_add_one, List.getElem?_eq_getElem h]
  show (l.take k ++ [l[k]]).any p = _
  rw [List.any_append]
  simp
theorem count_take_succ (p : K → Bool) (l : List K) (k : Nat) (h : k < l.length) : (l.take (k + 1)).countP p = (l.take k).countP p + (if p l[k]! then 1 else 0) := by
  rw [getElem!_pos l k h, List.take_add_one, List.getElem?_eq_getElem h]
  show (l.take k ++ [l[k]]).countP p = _
  rw [List.countP_append, List.countP_singleton]
theorem any_hit (p : K → Bool) (l : List K) (k : Nat) (h : k < l.length) (hp : p l[k]! = true) : l.any p = true := by
  rw [getElem!_pos l k h] at hp
  exact List.any_eq_true.2 ⟨_, List.getElem_mem h, hp⟩
set_option maxHeartbeats 2000000 in
theorem len_any (b : Nat) (a0 : Option Addr) (cap : Nat) (l : List R) (w : World) (hl : Log w b a0 cap l) :
    Calls Tryz.prog 8 #[.pointer (some ⟨b, 0, none⟩)] w fun e w' => e = .returned (.int .i64 l.length) ∧ Below w.heap.size w w' := by
  have h0 := hl.1
  go_enter Tryz.func8, Tryz.ntmps8
  go_wp2_with fail
  go_ret
  exact ⟨rfl, by repeat (first | assumption | (with_reducible exact Below.refl _ _) | exact balloc _ _ | exact balloc2 _ _ _ | refine btrans ?_ (by assumption) | refine btrans ?_ (balloc _ _))⟩
set_option maxHeartbeats 4000000 in
theorem people_any (b : Nat) (a0 : Option Addr) (cap : Nat) (l : List R) (w : World) (hl : Log w b a0 cap l) (hlm : l.length ≤ 1000000) :
    Calls Tryz.prog 23 #[.pointer (some ⟨b, 0, none⟩)] w fun e w' => e = .returned (.int .i64 (peopleN (ks l))) ∧ Below w.heap.size w w' := by
  have h0 := hl.1
  have HL := Lib.hid hl.2; clear hl
  go_enter Tryz.func23, Tryz.ntmps23
  go_wp2_with fail
  go_loopw [3, 11] (fun vn vi wr => ∃ k : Nat, k ≤ l.length ∧ vi = .int .i64 k ∧ vn = .int .i64 (peopleN ((ks l).take k)) ∧ Below w.heap.size w wr) (fun _ vi _ => l.length - (intOf vi).toNat)
  case atStart => exact ⟨0, Nat.zero_le _, rfl, by simp [peopleN], Below.refl _ _⟩
  case round =>
    obtain ⟨k, hk, rfl, rfl, hbr⟩ := hrel
    have HBR := Lib.hid hbr; clear hbr
    by_cases hlt : k < l.length
    · have i1 : (k : Int) < (l.length : Int) := by omega
      have i0 : (0 : Int) ≤ (k : Int) := by omega
      have hsu := count_take_succ (fun k => k.kind == 0) (ks l) k (by rw [ks_len]; exact hlt)
      rw [ks_get l k hlt] at hsu
      have hle : peopleN ((ks l).take k) ≤ k := Nat.le_trans List.countP_le_length (by rw [List.length_take]; omega)
      have hsu2 : peopleN ((ks l).take (k + 1)) = peopleN ((ks l).take k) + (if (l[k].k.kind == 0) then 1 else 0) := hsu
      obtain ⟨a, rfl, v0, v1, v2, v3, v4, v5, v6, v7⟩ := (HL.out.below HBR.out) k hlt
      generalize peopleN ((ks l).take k) = n at *
      generalize l[k] = r at *
      clear hsu
      have HSU := Lib.hid hsu2; clear hsu2
      cases h : (r.k.kind == 0)
      · go_wp2_with fail
        exact ⟨⟨k + 1, by omega, by go_num, by rw [HSU.out, h]; simp, btrans HBR.out (balloc _ _)⟩, by simp [intOf]; go_num⟩
      · go_wp2_with fail
        exact ⟨⟨k + 1, by omega, by go_num, by rw [HSU.out, h]; simp; try go_num, btrans HBR.out (balloc _ _)⟩, by simp [intOf]; go_num⟩
    · have i1 : ¬ (k : Int) < (l.length : Int) := by omega
      obtain rfl : k = l.length := by omega
      have hall : (ks l).take l.length = ks l := List.take_of_length_le (by rw [ks_len]; exact Nat.le_refl _)
      rw [hall]
      go_wp2_with fail
      go_ret
      exact ⟨rfl, HBR.out⟩
set_option maxHeartbeats 4000000 in
theorem gone_any (b : Nat) (a0 : Option Addr) (cap : Nat) (l : List R) (i : Int) (v : Nat) (w : World) (hl : Log w b a0 cap l) (hlm : l.length ≤ 1000000) (hv : v ≤ l.length) (hcap : l.length ≤ cap) :
    Calls Tryz.prog 18 #[.pointer (some ⟨b, 0, none⟩), .int .i64 i, .int .i64 v] w fun e w' => e = .returned (.bool (goneB ((ks l).take v) i)) ∧ Below w.heap.size w w' := by
  have h0 := hl.1
  have HL := Lib.hid hl.2; clear hl
  have q1 : (0 : Int) ≤ (v : Int) := by omega
  have q2 : (v : Int) ≤ (cap : Int) := by omega
  go_enter Tryz.func18, Tryz.ntmps18
  go_wp2_with fail
  go_loopw [16] (fun vi wr => ∃ k : Nat, k ≤ v ∧ vi = .int .i64 k ∧ Hid (((ks l).take k).any (hitB i) = false) ∧ Below w.heap.size w wr) (fun vi _ => v - (intOf vi).toNat)
  case atStart => exact ⟨0, Nat.zero_le _, rfl, Lib.hid rfl, Below.refl _ _⟩
  case round =>
    obtain ⟨k, hk, rfl, HP, hbr⟩ := hrel
    have HBR := Lib.hid hbr; clear hbr
    by_cases hlt : k < v
    · have hkl : k < l.length := by omega
      have i1 : (k : Int) < (v : Int) := by omega
      have i0 : (0 : Int) ≤ (k : Int) := by omega
      have hsu := any_take_succ (hitB i) (ks l) k (by rw [ks_len]; exact hkl)
      have hit : hitB i (ks l)[k]! = true → goneB ((ks l).take v) i = true := fun h => by
        have e : ((ks l).take v)[k]! = (ks l)[k]! := by
          rw [getElem!_pos ((ks l).take v) k (by rw [List.length_take, ks_len]; omega), getElem!_pos (ks l) k (by rw [ks_len]; exact hkl), List.getElem_take]
        exact any_hit (hitB i) _ k (by rw [List.length_take, ks_len]; omega) (by rw [e]; exact h)
      rw [HP.out, Bool.false_or] at hsu
      rw [ks_get l k hkl] at hsu hit
      obtain ⟨a, rfl, v0, v1, v2, v3, v4, v5, v6, v7⟩ := (HL.out.below HBR.out) k hkl
      have hh : hitB i l[k].k = (l[k].k.kind == 4 && l[k].k.pl == i) := rfl
      rw [hh] at hsu hit
      generalize l[k] = r at *
      clear hh HP
      have HSU := Lib.hid hsu; have HIT := Lib.hid hit; clear hsu hit
      cases h : (r.k.kind == 4)
      · go_wp2_with fail
        exact ⟨⟨k + 1, by omega, by go_num, Lib.hid (by rw [HSU.out, h]; rfl), btrans HBR.out (balloc _ _)⟩, by simp [intOf]; go_num⟩
      · cases h2 : (r.k.pl == i)
        · go_wp2_with fail
          exact ⟨⟨k + 1, by omega, by go_num, Lib.hid (by rw [HSU.out, h, h2]; rfl), btrans HBR.out (balloc _ _)⟩, by simp [intOf]; go_num⟩
        · go_wp2_with fail
          go_ret
          exact ⟨ret_bool (HIT.out (by rw [h, h2]; rfl)).symm, btrans HBR.out (balloc _ _)⟩
    · have i1 : ¬ (k : Int) < (v : Int) := by omega
      obtain rfl : k = v := by omega
      go_wp2_with fail
      go_ret
      exact ⟨ret_bool (by unfold goneB; exact HP.out.symm), HBR.out⟩
theorem any_drop_cons (p : K → Bool) (l : List K) (j : Nat) (h : j < l.length) : (l.drop j).any p = (p l[j]! || (l.drop (j + 1)).any p) := by
  rw [getElem!_pos l j h, List.drop_eq_getElem_cons h, List.any_cons]
set_option maxHeartbeats 4000000 in
theorem home_any (a0 : Option Addr) (cap : Nat) (l : List R) (t : Int) (who : List UInt8) (w : World) (hl : Rules w a0 l) (hlm : l.length ≤ 1000000) :
    Calls Tryz.prog 19 #[.slice a0 l.length cap, .int .i64 t, .string ⟨who.toArray⟩] w fun e w' => (∃ br : Int, e = .returned (.tuple #[.int .i64 br, .bool (homeB (ks l) t who)])) ∧ Below w.heap.size w w' := by
  have HL := Lib.hid hl; clear hl
  go_enter Tryz.func19, Tryz.ntmps19
  go_wp2_with fail
  go_loopw [8] (fun vi wr => ∃ (k : Nat) (z : Int), k ≤ l.length ∧ z = (k : Int) - 1 ∧ vi = .int .i64 z ∧ Hid (((ks l).drop k).any (isHome t who) = false) ∧ Below w.heap.size w wr) (fun vi _ => (intOf vi + 1).toNat)
  case atStart => exact ⟨l.length, _, Nat.le_refl _, rfl, rfl, Lib.hid (by rw [List.drop_of_length_le (by rw [ks_len]; exact Nat.le_refl _)]; rfl), Below.refl _ _⟩
  case round =>
    obtain ⟨k, z, hk, hz, rfl, HP, hbr⟩ := hrel
    have HBR := Lib.hid hbr; clear hbr
    cases k with
    | succ j =>
      obtain rfl : z = (j : Int) := by omega
      clear hz
      have i1 : (j : Int) < (l.length : Int) := by omega
      have i0 : (0 : Int) ≤ (j : Int) := by omega
      have hkl : j < l.length := by omega
      have hsu := any_drop_cons (isHome t who) (ks l) j (by rw [ks_len]; exact hkl)
      have hit : isHome t who (ks l)[j]! = true → homeB (ks l) t who = true := fun h => any_hit (isHome t who) _ j (by rw [ks_len]; exact hkl) h
      rw [HP.out, Bool.or_false] at hsu
      rw [ks_get l j hkl] at hsu hit
      obtain ⟨a, rfl, v0, v1, v2, v3, v4, v5, v6, v7⟩ := (HL.out.below HBR.out) j hkl
      have hof := fun W => of_any 0 t who l[j] W
      have hh : isHome t who l[j].k = (l[j].k.kind == 0 && l[j].k.tenant == t && l[j].k.who == who) := rfl
      rw [← hh] at hof
      generalize isHome t who l[j].k = B at *
      generalize l[j] = r at *
      clear hh HP
      have HSU := Lib.hid hsu; have HIT := Lib.hid hit; have HOF := Lib.hid hof; clear hsu hit hof
      cases B
      · go_wp2_with (go_at_call 20; refine (HOF.out _).mono ?_; rintro e w5 ⟨rfl, hb5⟩)
        exact ⟨⟨j, _, by omega, rfl, by go_num, Lib.hid HSU.out, btrans HBR.out hb5⟩, by simp [intOf]⟩
      · go_wp2_with (go_at_call 20; refine (HOF.out _).mono ?_; rintro e w5 ⟨rfl, hb5⟩; have u3 := (hb5.cell (World.block_lt_of_cell? _ _ v3)).trans v3)
        go_returns
        exact ⟨⟨r.br, by rw [HIT.out (by trivial)]; rfl⟩, btrans HBR.out hb5⟩
    | zero =>
      obtain rfl : z = -1 := by omega
      clear hz
      go_wp2_with fail
      go_returns
      exact ⟨⟨0, by rw [show homeB (ks l) t who = false from HP.out]; rfl⟩, HBR.out⟩
/-- a struct result's cell: eight cells written at once -/
theorem set8_at (w : World) (b : Nat) (v0 v1 v2 v3 v4 v5 v6 v7 : Value) (h : ∀ j, j < 8 → (w.cell? ⟨b, j, none⟩).isSome = true) :
    ∃ W2, W2 = ((((((((w.setCell ⟨b, 0, none⟩ v0).setCell ⟨b, 1, none⟩ v1).setCell ⟨b, 2, none⟩ v2).setCell ⟨b, 3, none⟩ v3).setCell ⟨b, 4, none⟩ v4).setCell ⟨b, 5, none⟩ v5).setCell ⟨b, 6, none⟩ v6).setCell ⟨b, 7, none⟩ v7) ∧
    W2.cell? ⟨b, 0, none⟩ = some v0 ∧ W2.cell? ⟨b, 1, none⟩ = some v1 ∧ W2.cell? ⟨b, 2, none⟩ = some v2 ∧ W2.cell? ⟨b, 3, none⟩ = some v3 ∧ W2.cell? ⟨b, 4, none⟩ = some v4 ∧ W2.cell? ⟨b, 5, none⟩ = some v5 ∧ W2.cell? ⟨b, 6, none⟩ = some v6 ∧ W2.cell? ⟨b, 7, none⟩ = some v7 ∧ Below b w W2 := by
  have e := World.cell?_setCells_in b [v0, v1, v2, v3, v4, v5, v6, v7] 0 w (fun j hj => by rw [Nat.zero_add]; exact h j hj)
  exact ⟨_, rfl, e 0 (by simp), e 1 (by simp), e 2 (by simp), e 3 (by simp), e 4 (by simp), e 5 (by simp), e 6 (by simp), e 7 (by simp),
    ((((((((Below.refl b w).setCell (Nat.le_refl _) _).setCell (Nat.le_refl _) _).setCell (Nat.le_refl _) _).setCell (Nat.le_refl _) _).setCell (Nat.le_refl _) _).setCell (Nat.le_refl _) _).setCell (Nat.le_refl _) _).setCell (Nat.le_refl _) _⟩
theorem isSome_alloc8 (w : World) (v0 v1 v2 v3 v4 v5 v6 v7 : Value) (T : TypeId) : ∀ j, j < 8 → ((w.alloc (.cells #[v0, v1, v2, v3, v4, v5, v6, v7] T)).cell? ⟨w.heap.size, j, none⟩).isSome = true := fun j hj => by
  rw [World.cell?_alloc_at _ _ _ _ rfl, Array.getElem?_eq_getElem (by exact hj)]; rfl
def noR : R := ⟨⟨0, 0, [], 0⟩, 0, [], none, 0, 0, []⟩
set_option maxRecDepth 20000 in
set_option maxHeartbeats 4000000 in
theorem rule_in (b : Nat) (a0 : Option Addr) (cap : Nat) (l : List R) (i : Nat) (w : World) (hl : Log w b a0 cap l) (hi : i < l.length) :
    Calls Tryz.prog 11 #[.pointer (some ⟨b, 0, none⟩), .int .i64 i] w fun e w' => e = .returned (.tuple #[rv l[i], .bool true]) ∧ Below w.heap.size w w' := by
  have h0 := hl.1
  have hb0 := hl.lt
  have i1 : (i : Int) < (l.length : Int) := by omega
  have i0 : (0 : Int) ≤ (i : Int) := by omega
  have i2 : ¬ (i : Int) < 0 := by omega
  have i3 : ¬ (l.length : Int) ≤ (i : Int) := by omega
  obtain ⟨a, rfl, v0, v1, v2, v3, v4, v5, v6, v7⟩ := hl.2 i hi
  have hab := World.block_lt_of_cell? _ _ v0
  generalize l[i] = r at *
  clear hl
  go_enter Tryz.func11, Tryz.ntmps11
  go_wp2_with fail
  go_returns
  exact ⟨rfl, by repeat (first | assumption | (with_reducible exact Below.refl _ _) | exact balloc _ _ | exact balloc2 _ _ _ | refine btrans ?_ (by assumption) | refine btrans ?_ (balloc _ _))⟩
set_option maxRecDepth 20000 in
set_option maxHeartbeats 4000000 in
theorem rule_out (b : Nat) (a0 : Option Addr) (cap : Nat) (l : List R) (i : Int) (w : World) (hl : Log w b a0 cap l) (hi : i < 0 ∨ (l.length : Int) ≤ i) :
    Calls Tryz.prog 11 #[.pointer (some ⟨b, 0, none⟩), .int .i64 i] w fun e w' => e = .returned (.tuple #[rv noR, .bool false]) ∧ Below w.heap.size w w' := by
  have h0 := hl.1
  have hb0 := hl.lt
  clear hl
  by_cases i0 : i < 0
  · go_enter Tryz.func11, Tryz.ntmps11
    go_wp2_with fail
    go_returns
    exact ⟨rfl, by repeat (first | assumption | (with_reducible exact Below.refl _ _) | exact balloc _ _ | exact balloc2 _ _ _ | refine btrans ?_ (by assumption) | refine btrans ?_ (balloc _ _))⟩
  · have i1 : (l.length : Int) ≤ i := by omega
    go_enter Tryz.func11, Tryz.ntmps11
    go_wp2_with fail
    go_returns
    exact ⟨rfl, by repeat (first | assumption | (with_reducible exact Below.refl _ _) | exact balloc _ _ | exact balloc2 _ _ _ | refine btrans ?_ (by assumption) | refine btrans ?_ (balloc _ _))⟩
end Go.Proofs.YtfkedobofamkiaaGreatDoor.Pol
end

section
/- THE WALK OF acl.Right. -/
namespace Go.Proofs.YtfkedobofamkiaaGreatDoor.Pol
open Go.RowKit Flt Go.Proofs.YtfkedobofamkiaaGreatDoor.Val
attribute [local go_sem] run_store_flt
/-- may it be a rule (cs: its conditions)? -/
def aclB (r : R) (cs : List C) : Bool :=
  if r.k.kind == 4 then decide (0 ≤ r.k.pl)
  else if decide (r.k.kind < 0) || decide (4 < r.k.kind) || decide (r.k.tenant < 0) || decide (4 ≤ r.k.tenant) || !Sc.nameB r.k.who then false
  else if r.k.kind == 0 then decide (0 ≤ r.br) && decide (r.br < 6)
  else if r.k.kind == 3 then Sc.nameB r.nm && Sc.rightB r.sc
  else fRight r.sc cs
set_option maxRecDepth 20000 in
set_option maxHeartbeats 4000000 in
theorem right_any (r : R) (cs : List C) (w : World) (hc : Conds w r.c0 cs) (hn : r.cn = cs.length) (hlm : cs.length ≤ 1000000)
    (hsc : r.sc.length ≤ 140737488351232) (hw : r.k.who.length ≤ 140737488351232) (hnm : r.nm.length ≤ 140737488351232) (hok : ∀ c ∈ cs, c.name.length ≤ 140737488351232 ∧ c.val.text.length ≤ 140737488351232) :
    Calls Tryz.prog 22 #[rv r] w fun e w' => e = .returned (.bool (aclB r cs)) ∧ Below w.heap.size w w' := by
  have hr : aclB r cs = (if r.k.kind == 4 then decide (0 ≤ r.k.pl)
    else if decide (r.k.kind < 0) || decide (4 < r.k.kind) || decide (r.k.tenant < 0) || decide (4 ≤ r.k.tenant) || !Sc.nameB r.k.who then false
    else if r.k.kind == 0 then decide (0 ≤ r.br) && decide (r.br < 6)
    else if r.k.kind == 3 then Sc.nameB r.nm && Sc.rightB r.sc
    else fRight r.sc cs) := rfl
  obtain ⟨⟨kd, tn, who, pl⟩, br, sc, c0, cn, cc, nm⟩ := r
  dsimp only at *
  subst hn
  have hfr (W : World) (h : Conds W c0 cs) := fright_any sc c0 cc cs W h hlm hsc hok
  have hnw (W : World) := Sc.name_any ⟨who.toArray⟩ W (by show who.length ≤ _; unfold maxLen; omega)
  have hnn (W : World) := Sc.name_any ⟨nm.toArray⟩ W (by show nm.length ≤ _; unfold maxLen; omega)
  have hss (W : World) := Sc.right_l sc W hsc
  have ew : (⟨who.toArray⟩ : ByteArray).data.toList = who := by simp
  have en : (⟨nm.toArray⟩ : ByteArray).data.toList = nm := by simp
  rw [ew] at hnw; rw [en] at hnn
  generalize Sc.nameB who = nw at *
  generalize Sc.nameB nm = nn at *
  generalize Sc.rightB sc = sr at *
  generalize fRight sc cs = fr at *
  generalize aclB _ cs = RES at *
  have HC := Lib.hid hc; have HR := Lib.hid hr; have HFR := Lib.hid hfr; have HNW := Lib.hid hnw; have HNN := Lib.hid hnn; have HSS := Lib.hid hss
  clear hc hr hfr hnw hnn hss ew en hok hlm
  cases k4 : (kd == 4)
  rotate_left
  · go_enter Tryz.func22, Tryz.ntmps22
    go_wp2_with fail
    go_ret
    exact ⟨ret_bool (by rw [HR.out, k4]; rfl), by repeat (first | assumption | (with_reducible exact Below.refl _ _) | exact balloc _ _ | exact balloc2 _ _ _ | refine btrans ?_ (by assumption) | refine btrans ?_ (balloc _ _))⟩
  by_cases a0 : kd < 0
  · go_enter Tryz.func22, Tryz.ntmps22
    go_wp2_with (first | (go_at_call 34; ((with_reducible refine (HNW.out _).mono ?_) ; rintro e w1 ⟨rfl, rfl⟩)) | (go_at_call 34; ((with_reducible refine (HNN.out _).mono ?_) ; rintro e w1 ⟨rfl, rfl⟩)) | (go_at_call 25; refine (HSS.out _).mono ?_; rintro e w2 ⟨rfl, ⟨nd, rfl⟩⟩) | (go_at_call 15; refine (HFR.out _ (HC.out.below (by repeat (first | assumption | (with_reducible exact Below.refl _ _) | exact balloc _ _ | exact balloc2 _ _ _ | refine btrans ?_ (by assumption) | refine btrans ?_ (balloc _ _))))).mono ?_; rintro e w2 ⟨rfl, hb2⟩) | fail)
    all_goals first | omega | (go_ret; refine ⟨ret_bool (by rw [HR.out, k4, decide_eq_true a0]; rfl), ?_⟩; first | exact bdrewN (balloc _ _) nd | exact (by repeat (first | assumption | (with_reducible exact Below.refl _ _) | exact balloc _ _ | exact balloc2 _ _ _ | refine btrans ?_ (by assumption) | refine btrans ?_ (balloc _ _))))
  by_cases a1 : 4 < kd
  · go_enter Tryz.func22, Tryz.ntmps22
    go_wp2_with (first | (go_at_call 34; ((with_reducible refine (HNW.out _).mono ?_) ; rintro e w1 ⟨rfl, rfl⟩)) | (go_at_call 34; ((with_reducible refine (HNN.out _).mono ?_) ; rintro e w1 ⟨rfl, rfl⟩)) | (go_at_call 25; refine (HSS.out _).mono ?_; rintro e w2 ⟨rfl, ⟨nd, rfl⟩⟩) | (go_at_call 15; refine (HFR.out _ (HC.out.below (by repeat (first | assumption | (with_reducible exact Below.refl _ _) | exact balloc _ _ | exact balloc2 _ _ _ | refine btrans ?_ (by assumption) | refine btrans ?_ (balloc _ _))))).mono ?_; rintro e w2 ⟨rfl, hb2⟩) | fail)
    all_goals first | omega | (go_ret; refine ⟨ret_bool (by rw [HR.out, k4, decide_eq_true a1]; simp), ?_⟩; first | exact bdrewN (balloc _ _) nd | exact (by repeat (first | assumption | (with_reducible exact Below.refl _ _) | exact balloc _ _ | exact balloc2 _ _ _ | refine btrans ?_ (by assumption) | refine btrans ?_ (balloc _ _))))
  by_cases b0 : tn < 0
  · go_enter Tryz.func22, Tryz.ntmps22
    go_wp2_with (first | (go_at_call 34; ((with_reducible refine (HNW.out _).mono ?_) ; rintro e w1 ⟨rfl, rfl⟩)) | (go_at_call 34; ((with_reducible refine (HNN.out _).mono ?_) ; rintro e w1 ⟨rfl, rfl⟩)) | (go_at_call 25; refine (HSS.out _).mono ?_; rintro e w2 ⟨rfl, ⟨nd, rfl⟩⟩) | (go_at_call 15; refine (HFR.out _ (HC.out.below (by repeat (first | assumption | (with_reducible exact Below.refl _ _) | exact balloc _ _ | exact balloc2 _ _ _ | refine btrans ?_ (by assumption) | refine btrans ?_ (balloc _ _))))).mono ?_; rintro e w2 ⟨rfl, hb2⟩) | fail)
    all_goals first | omega | (go_ret; refine ⟨ret_bool (by rw [HR.out, k4, decide_eq_true b0]; simp), ?_⟩; first | exact bdrewN (balloc _ _) nd | exact (by repeat (first | assumption | (with_reducible exact Below.refl _ _) | exact balloc _ _ | exact balloc2 _ _ _ | refine btrans ?_ (by assumption) | refine btrans ?_ (balloc _ _))))
  by_cases b1 : 4 ≤ tn
  · go_enter Tryz.func22, Tryz.ntmps22
    go_wp2_with (first | (go_at_call 34; ((with_reducible refine (HNW.out _).mono ?_) ; rintro e w1 ⟨rfl, rfl⟩)) | (go_at_call 34; ((with_reducible refine (HNN.out _).mono ?_) ; rintro e w1 ⟨rfl, rfl⟩)) | (go_at_call 25; refine (HSS.out _).mono ?_; rintro e w2 ⟨rfl, ⟨nd, rfl⟩⟩) | (go_at_call 15; refine (HFR.out _ (HC.out.below (by repeat (first | assumption | (with_reducible exact Below.refl _ _) | exact balloc _ _ | exact balloc2 _ _ _ | refine btrans ?_ (by assumption) | refine btrans ?_ (balloc _ _))))).mono ?_; rintro e w2 ⟨rfl, hb2⟩) | fail)
    all_goals first | omega | (go_ret; refine ⟨ret_bool (by rw [HR.out, k4, decide_eq_true b1]; simp), ?_⟩; first | exact bdrewN (balloc _ _) nd | exact (by repeat (first | assumption | (with_reducible exact Below.refl _ _) | exact balloc _ _ | exact balloc2 _ _ _ | refine btrans ?_ (by assumption) | refine btrans ?_ (balloc _ _))))
  have d0 : decide (kd < 0) = false := decide_eq_false a0
  have d1 : decide (4 < kd) = false := decide_eq_false a1
  have d2 : decide (tn < 0) = false := decide_eq_false b0
  have d3 : decide (4 ≤ tn) = false := decide_eq_false b1
  have HR2 := Lib.hid (show RES = (if !nw then false else if kd == 0 then decide (0 ≤ br) && decide (br < 6) else if kd == 3 then nn && sr else fr) from by rw [HR.out, k4, d0, d1, d2, d3]; rfl)
  clear HR
  cases nw
  · go_enter Tryz.func22, Tryz.ntmps22
    go_wp2_with (first | (go_at_call 34; ((with_reducible refine (HNW.out _).mono ?_) ; rintro e w1 ⟨rfl, rfl⟩)) | (go_at_call 34; ((with_reducible refine (HNN.out _).mono ?_) ; rintro e w1 ⟨rfl, rfl⟩)) | (go_at_call 25; refine (HSS.out _).mono ?_; rintro e w2 ⟨rfl, ⟨nd, rfl⟩⟩) | (go_at_call 15; refine (HFR.out _ (HC.out.below (by repeat (first | assumption | (with_reducible exact Below.refl _ _) | exact balloc _ _ | exact balloc2 _ _ _ | refine btrans ?_ (by assumption) | refine btrans ?_ (balloc _ _))))).mono ?_; rintro e w2 ⟨rfl, hb2⟩) | fail)
    all_goals first | omega | (go_ret; refine ⟨ret_bool (by rw [HR2.out]; rfl), ?_⟩; first | exact bdrewN (balloc _ _) nd | exact (by repeat (first | assumption | (with_reducible exact Below.refl _ _) | exact balloc _ _ | exact balloc2 _ _ _ | refine btrans ?_ (by assumption) | refine btrans ?_ (balloc _ _))))
  cases k0 : (kd == 0)
  rotate_left
  · by_cases r0 : 0 ≤ br
    · go_enter Tryz.func22, Tryz.ntmps22
      go_wp2_with (first | (go_at_call 34; ((with_reducible refine (HNW.out _).mono ?_) ; rintro e w1 ⟨rfl, rfl⟩)) | (go_at_call 34; ((with_reducible refine (HNN.out _).mono ?_) ; rintro e w1 ⟨rfl, rfl⟩)) | (go_at_call 25; refine (HSS.out _).mono ?_; rintro e w2 ⟨rfl, ⟨nd, rfl⟩⟩) | (go_at_call 15; refine (HFR.out _ (HC.out.below (by repeat (first | assumption | (with_reducible exact Below.refl _ _) | exact balloc _ _ | exact balloc2 _ _ _ | refine btrans ?_ (by assumption) | refine btrans ?_ (balloc _ _))))).mono ?_; rintro e w2 ⟨rfl, hb2⟩) | fail)
      all_goals first | omega | (go_ret; refine ⟨ret_bool (by rw [HR2.out, k0, decide_eq_true r0]; rfl), ?_⟩; first | exact bdrewN (balloc _ _) nd | exact (by repeat (first | assumption | (with_reducible exact Below.refl _ _) | exact balloc _ _ | exact balloc2 _ _ _ | refine btrans ?_ (by assumption) | refine btrans ?_ (balloc _ _))))
    · go_enter Tryz.func22, Tryz.ntmps22
      go_wp2_with (first | (go_at_call 34; ((with_reducible refine (HNW.out _).mono ?_) ; rintro e w1 ⟨rfl, rfl⟩)) | (go_at_call 34; ((with_reducible refine (HNN.out _).mono ?_) ; rintro e w1 ⟨rfl, rfl⟩)) | (go_at_call 25; refine (HSS.out _).mono ?_; rintro e w2 ⟨rfl, ⟨nd, rfl⟩⟩) | (go_at_call 15; refine (HFR.out _ (HC.out.below (by repeat (first | assumption | (with_reducible exact Below.refl _ _) | exact balloc _ _ | exact balloc2 _ _ _ | refine btrans ?_ (by assumption) | refine btrans ?_ (balloc _ _))))).mono ?_; rintro e w2 ⟨rfl, hb2⟩) | fail)
      all_goals first | omega | (go_ret; refine ⟨ret_bool (by rw [HR2.out, k0, show decide (0 ≤ br) = false from decide_eq_false (by omega)]; rfl), ?_⟩; first | exact bdrewN (balloc _ _) nd | exact (by repeat (first | assumption | (with_reducible exact Below.refl _ _) | exact balloc _ _ | exact balloc2 _ _ _ | refine btrans ?_ (by assumption) | refine btrans ?_ (balloc _ _))))
  cases k3 : (kd == 3)
  · go_enter Tryz.func22, Tryz.ntmps22
    go_wp2_with (first | (go_at_call 34; ((with_reducible refine (HNW.out _).mono ?_) ; rintro e w1 ⟨rfl, rfl⟩)) | (go_at_call 34; ((with_reducible refine (HNN.out _).mono ?_) ; rintro e w1 ⟨rfl, rfl⟩)) | (go_at_call 25; refine (HSS.out _).mono ?_; rintro e w2 ⟨rfl, ⟨nd, rfl⟩⟩) | (go_at_call 15; refine (HFR.out _ (HC.out.below (by repeat (first | assumption | (with_reducible exact Below.refl _ _) | exact balloc _ _ | exact balloc2 _ _ _ | refine btrans ?_ (by assumption) | refine btrans ?_ (balloc _ _))))).mono ?_; rintro e w2 ⟨rfl, hb2⟩) | fail)
    all_goals first | omega | (go_ret; refine ⟨ret_bool (by rw [HR2.out, k0, k3]; rfl), ?_⟩; first | exact bdrewN (balloc _ _) nd | exact (by repeat (first | assumption | (with_reducible exact Below.refl _ _) | exact balloc _ _ | exact balloc2 _ _ _ | refine btrans ?_ (by assumption) | refine btrans ?_ (balloc _ _))))
  cases nn
  · go_enter Tryz.func22, Tryz.ntmps22
    go_wp2_with (first | (go_at_call 34; ((with_reducible refine (HNW.out _).mono ?_) ; rintro e w1 ⟨rfl, rfl⟩)) | (go_at_call 34; ((with_reducible refine (HNN.out _).mono ?_) ; rintro e w1 ⟨rfl, rfl⟩)) | (go_at_call 25; refine (HSS.out _).mono ?_; rintro e w2 ⟨rfl, ⟨nd, rfl⟩⟩) | (go_at_call 15; refine (HFR.out _ (HC.out.below (by repeat (first | assumption | (with_reducible exact Below.refl _ _) | exact balloc _ _ | exact balloc2 _ _ _ | refine btrans ?_ (by assumption) | refine btrans ?_ (balloc _ _))))).mono ?_; rintro e w2 ⟨rfl, hb2⟩) | fail)
    all_goals first | omega | (go_ret; refine ⟨ret_bool (by rw [HR2.out, k0, k3]; rfl), ?_⟩; first | exact bdrewN (balloc _ _) nd | exact (by repeat (first | assumption | (with_reducible exact Below.refl _ _) | exact balloc _ _ | exact balloc2 _ _ _ | refine btrans ?_ (by assumption) | refine btrans ?_ (balloc _ _))))
  · go_enter Tryz.func22, Tryz.ntmps22
    go_wp2_with (first | (go_at_call 34; ((with_reducible refine (HNW.out _).mono ?_) ; rintro e w1 ⟨rfl, rfl⟩)) | (go_at_call 34; ((with_reducible refine (HNN.out _).mono ?_) ; rintro e w1 ⟨rfl, rfl⟩)) | (go_at_call 25; refine (HSS.out _).mono ?_; rintro e w2 ⟨rfl, ⟨nd, rfl⟩⟩) | (go_at_call 15; refine (HFR.out _ (HC.out.below (by repeat (first | assumption | (with_reducible exact Below.refl _ _) | exact balloc _ _ | exact balloc2 _ _ _ | refine btrans ?_ (by assumption) | refine btrans ?_ (balloc _ _))))).mono ?_; rintro e w2 ⟨rfl, hb2⟩) | fail)
    all_goals first | omega | (go_ret; refine ⟨ret_bool (by rw [HR2.out, k0, k3]; rfl), ?_⟩; first | exact bdrewN (balloc _ _) nd | exact (by repeat (first | assumption | (with_reducible exact Below.refl _ _) | exact balloc _ _ | exact balloc2 _ _ _ | refine btrans ?_ (by assumption) | refine btrans ?_ (balloc _ _))))
end Go.Proofs.YtfkedobofamkiaaGreatDoor.Pol
end

section
/- THE WALK OF (*policy.Log).check. -/
namespace Go.Proofs.YtfkedobofamkiaaGreatDoor.Pol
open Go.RowKit Flt Go.Proofs.YtfkedobofamkiaaGreatDoor.Val
attribute [local go_sem] run_store_flt
/-- what a rule's conditions in memory must be -/
structure ROk (w : World) (r : R) (cs : List C) : Prop where
  hc : Conds w r.c0 cs
  hn : r.cn = cs.length
  hlm : cs.length ≤ 1000000
  hsc : r.sc.length ≤ 140737488351232
  hw : r.k.who.length ≤ 140737488351232
  hnm : r.nm.length ≤ 140737488351232
  hok : ∀ c ∈ cs, c.name.length ≤ 140737488351232 ∧ c.val.text.length ≤ 140737488351232
theorem ROk.below {w w2 : World} {r : R} {cs : List C} (h : ROk w r cs) (hb : Below w.heap.size w w2) : ROk w2 r cs := ⟨h.hc.below hb, h.hn, h.hlm, h.hsc, h.hw, h.hnm, h.hok⟩
theorem ROk.right {w : World} {r : R} {cs : List C} (h : ROk w r cs) : Calls Tryz.prog 22 #[rv r] w fun e w' => e = .returned (.bool (aclB r cs)) ∧ Below w.heap.size w w' :=
  right_any r cs w h.hc h.hn h.hlm h.hsc h.hw h.hnm h.hok
theorem ck_below {w W W2 : World} {b p q : Nat} {u v x : Value} (hb : Below W.heap.size W W2) (h : W.cell? ⟨b, 0, none⟩ = some u ∧ W.cell? ⟨p, 7, none⟩ = some v ∧ W.cell? ⟨q, 0, none⟩ = some x ∧ Below w.heap.size w W) :
    W2.cell? ⟨b, 0, none⟩ = some u ∧ W2.cell? ⟨p, 7, none⟩ = some v ∧ W2.cell? ⟨q, 0, none⟩ = some x ∧ Below w.heap.size w W2 := by
  have e : ∀ {q : Addr} {v : Value}, W.cell? q = some v → W2.cell? q = some v := fun h => (hb.cell (World.block_lt_of_cell? _ _ h)).trans h
  exact ⟨e h.1, e h.2.1, e h.2.2.1, btrans h.2.2.2 hb⟩
theorem ck_own {w W : World} {b p q : Nat} {u v x : Value} (h : W.cell? ⟨b, 0, none⟩ = some u ∧ W.cell? ⟨p, 7, none⟩ = some v ∧ W.cell? ⟨q, 0, none⟩ = some x ∧ Below w.heap.size w W) : Below w.heap.size w W := h.2.2.2
theorem ck_start {w w1 w2 : World} {b : Nat} {A B : Array Value} {T U : TypeId} {u v x : Value} (h0 : w.cell? ⟨b, 0, none⟩ = some u) (hb1 : Below (w.alloc (.cells A T)).heap.size (w.alloc (.cells A T)) w1) (hb2 : Below w1.heap.size w1 w2) (hA : A[7]? = some v) (hB : B[0]? = some x) :
    (w2.alloc (.cells B U)).cell? ⟨b, 0, none⟩ = some u ∧ (w2.alloc (.cells B U)).cell? ⟨w.heap.size, 7, none⟩ = some v ∧ (w2.alloc (.cells B U)).cell? ⟨w2.heap.size, 0, none⟩ = some x ∧ Below w.heap.size w (w2.alloc (.cells B U)) := by
  have hb : Below w.heap.size w (w2.alloc (.cells B U)) := btrans (btrans (btrans (balloc _ _) hb1) hb2) (balloc _ _)
  have z : w.heap.size < (w.alloc (.cells A T)).heap.size := by simp
  have z1 : w.heap.size < w1.heap.size := Nat.lt_of_lt_of_le z hb1.size
  refine ⟨(hb.cell (World.block_lt_of_cell? _ _ h0)).trans h0, ?_, ?_, hb⟩
  · exact ((btrans hb2 (balloc w2 (.cells B U))).cell (p := ⟨w.heap.size, 7, none⟩) z1).trans ((hb1.cell (p := ⟨w.heap.size, 7, none⟩) z).trans ((World.cell?_alloc_at _ _ _ _ rfl).trans hA))
  · exact (World.cell?_alloc_at _ _ _ _ rfl).trans hB
set_option maxRecDepth 20000 in
set_option maxHeartbeats 8000000 in
theorem chk_revoke (b : Nat) (a0 : Option Addr) (cap : Nat) (l : List R) (r : R) (cs : List C) (w : World) (hl : Log w b a0 cap l) (hlm : l.length ≤ 1000000) (hcap : l.length ≤ cap) (hr : ROk w r cs) (h4 : r.k.kind = 4) :
    Calls Tryz.prog 14 #[.pointer (some ⟨b, 0, none⟩), rv r] w fun e w' => e = .returned (.int .i64 (checkE (ks l) (aclB r cs) r.k)) ∧ Below w.heap.size w w' := by
  have hb0 := hl.lt
  have h0 := hl.1
  have hk (W : World) (h : Below w.heap.size w W) := (hr.below h).right
  have hru (W : World) (h : Below w.heap.size w W) (hi : r.k.pl < 0 ∨ (l.length : Int) ≤ r.k.pl) : Calls Tryz.prog 11 #[.pointer (some ⟨b, 0, none⟩), .int .i64 r.k.pl] W fun e w' => e = .returned (.tuple #[rul 0 0 [] 0 [] none 0 0 [] 0, .bool false]) ∧ Below W.heap.size W w' := rule_out b a0 cap l r.k.pl W (hl.below h) hi
  have hri (i : Nat) (W : World) (h : Below w.heap.size w W) (hi : i < l.length) := rule_in b a0 cap l i W (hl.below h) hi
  have hgo (i : Int) (W : World) (h : Below w.heap.size w W) := gone_any b a0 cap l i l.length W (hl.below h) hlm (Nat.le_refl _) hcap
  rw [List.take_of_length_le (show (ks l).length ≤ l.length by rw [ks_len]; exact Nat.le_refl _)] at hgo
  have hres : checkE (ks l) (aclB r cs) r.k = (if !aclB r cs then 1 else if l.length = 40 then 6 else if oldB (ks l) r.k.pl then 0 else 3) := by
    unfold checkE
    rw [ks_len, h4]
    rfl
  generalize checkE (ks l) (aclB r cs) r.k = RES at *
  generalize aclB r cs = ok at *
  have HK := Lib.hid hk; have HRU := Lib.hid hru; have HRI := Lib.hid hri; have HGO := Lib.hid hgo; have HRES := Lib.hid hres
  have HL := Lib.hid hl
  clear hk hru hri hgo hres hl hr
  obtain ⟨⟨kd, tn, who, pl⟩, br, sc, c0, cn, cc, nm⟩ := r
  dsimp only at h4
  subst h4
  cases ok
  · go_enter Tryz.func14, Tryz.ntmps14
    go_wp2_with (first | (go_at_call 22; refine (HK.out _ (by repeat (first | assumption | (with_reducible exact Below.refl _ _) | exact balloc _ _ | exact balloc2 _ _ _ | refine btrans ?_ (by assumption) | refine btrans ?_ (balloc _ _)))).mono ?_; rintro e w1 ⟨rfl, hb1⟩; obtain ⟨hc1, hf1⟩ := bcell hb1) | fail)
    go_ret
    exact ⟨by rw [HRES.out]; rfl, by repeat (first | assumption | (with_reducible exact Below.refl _ _) | exact balloc _ _ | exact balloc2 _ _ _ | refine btrans ?_ (by assumption) | refine btrans ?_ (balloc _ _))⟩
  by_cases h40 : l.length = 40
  · have i40 : ((l.length : Int) == 40) = true := by rw [beq_iff_eq]; omega
    go_enter Tryz.func14, Tryz.ntmps14
    go_wp2_with (first | (go_at_call 22; refine (HK.out _ (by repeat (first | assumption | (with_reducible exact Below.refl _ _) | exact balloc _ _ | exact balloc2 _ _ _ | refine btrans ?_ (by assumption) | refine btrans ?_ (balloc _ _)))).mono ?_; rintro e w1 ⟨rfl, hb1⟩; obtain ⟨hc1, hf1⟩ := bcell hb1) | fail)
    go_ret
    exact ⟨by rw [HRES.out, h40]; rfl, by repeat (first | assumption | (with_reducible exact Below.refl _ _) | exact balloc _ _ | exact balloc2 _ _ _ | refine btrans ?_ (by assumption) | refine btrans ?_ (balloc _ _))⟩
  have i40 : ((l.length : Int) == 40) = false := by rw [beq_eq_false_iff_ne]; omega
  by_cases hout : pl < 0 ∨ (l.length : Int) ≤ pl
  · go_enter Tryz.func14, Tryz.ntmps14
    go_wp2_with (first | (go_at_call 22; refine (HK.out _ (by repeat (first | assumption | (with_reducible exact Below.refl _ _) | exact balloc _ _ | exact balloc2 _ _ _ | refine btrans ?_ (by assumption) | refine btrans ?_ (balloc _ _)))).mono ?_; rintro e w1 ⟨rfl, hb1⟩; obtain ⟨hc1, hf1⟩ := bcell hb1) | (go_at_call 11; refine (HRU.out _ (by repeat (first | assumption | (with_reducible exact Below.refl _ _) | exact balloc _ _ | exact balloc2 _ _ _ | refine btrans ?_ (by assumption) | refine btrans ?_ (balloc _ _))) hout).mono ?_; rintro e w2 ⟨rfl, hb2⟩; obtain ⟨hc2, hf2⟩ := bcell hb2) | fail)
    obtain ⟨ko, hko⟩ : ∃ ko : Int, ko = 0 := ⟨_, rfl⟩
    have HSS := Lib.hid (ck_start (v := .int .i64 pl) (x := .int .i64 ko) (B := #[.int .i64 0, .int .i64 0, .string ⟨#[]⟩, .int .i64 0, .string ⟨#[]⟩, .slice none 0 0, .string ⟨#[]⟩, .int .i64 0]) (U := 33) h0 hb1 hb2 rfl (by rw [hko]; rfl))
    generalize World.alloc w2 _ = W0 at *
    have hold : oldB (ks l) pl = false := by
      unfold oldB
      rw [ks_len]
      rcases hout with h | h
      · rw [show decide (0 ≤ pl) = false from decide_eq_false (by omega)]; rfl
      · rw [show decide (pl < (l.length : Int)) = false from decide_eq_false (by omega)]; simp
    have HOLD := Lib.hid hold
    clear hold hb1 hb2 hc1 hf1 hc2 hf2 h0 hko hout
    refine wp_region_held_drew (S := (fun w' => w'.cell? ⟨b, 0, none⟩ = some (.slice a0 l.length cap) ∧ w'.cell? ⟨w.heap.size, 7, none⟩ = some (.int .i64 pl) ∧ w'.cell? ⟨w2.heap.size, 0, none⟩ = some (.int .i64 ko) ∧ Below w.heap.size w w')) (by kernel_rfl) ?_ (fun hq0 => ?_)
    · ((try dsimp only); (first | exact HSS.out | exact ck_below (bdrewN (Below.refl _ _) 1) HSS.out | assumption | exact ck_below (by assumption) (by assumption)))
    (refine wpAnyH_take (i := 0) (oi := ?_) (v := ?_) ?_ (by kernel_rfl) (by kernel_rfl) (by kernel_rfl) ?_ (Or.inl ⟨?_, ?_⟩) (by assumption) ?_; rotate_left 2; (· (simp only [List.getElem?_toArray, List.getElem?_cons_zero]; first | done | rfl)); (· exact (fun _ _ _ h => h)); (· rfl); (· (intro w hSw; (try dsimp only at hSw); go_simp; (try with_reducible rfl))))
    (try simp only [Act.put, List.setIfInBounds_toArray, List.set_cons_zero, List.set_cons_succ])
    (refine wpAnyH_take (i := 1) (oi := ?_) (v := ?_) ?_ (by kernel_rfl) (by kernel_rfl) (by kernel_rfl) ?_ (Or.inl ⟨?_, ?_⟩) (by assumption) ?_; rotate_left 2; (· (simp only [List.getElem?_toArray, List.getElem?_cons_succ, List.getElem?_cons_zero]; first | done | rfl)); (· exact (fun _ _ _ h => h)); (· rfl); (· (intro w hSw; (try dsimp only at hSw); go_simp; (try with_reducible rfl))))
    (try simp only [Act.put, List.setIfInBounds_toArray, List.set_cons_zero, List.set_cons_succ])
    (refine wpAnyH_take (i := 2) (oi := ?_) (v := ?_) ?_ (by kernel_rfl) (by kernel_rfl) (by kernel_rfl) ?_ (Or.inl ⟨?_, ?_⟩) (by assumption) ?_; rotate_left 2; (· (simp only [List.getElem?_toArray, List.getElem?_cons_succ, List.getElem?_cons_zero]; first | done | rfl)); (· exact (fun _ _ _ h => h)); (· rfl); (· (intro w hSw; (try dsimp only at hSw); go_simp; (try with_reducible rfl))))
    (try simp only [Act.put, List.setIfInBounds_toArray, List.set_cons_zero, List.set_cons_succ])
    (refine wpAnyH_take (i := 3) (oi := ?_) (v := ?_) ?_ (by kernel_rfl) (by kernel_rfl) (by kernel_rfl) ?_ (Or.inr ⟨?_, ?_⟩) (by assumption) ?_; rotate_left 2; (· (simp only [List.getElem?_toArray, List.getElem?_cons_succ, List.getElem?_cons_zero]; first | done | rfl)); (· exact (fun _ _ _ h => h)); (· rfl); (· rfl))
    (try simp only [Act.put, List.setIfInBounds_toArray, List.set_cons_zero, List.set_cons_succ])
    (refine wpAnyH_take (i := 4) (oi := ?_) (v := ?_) ?_ (by kernel_rfl) (by kernel_rfl) (by kernel_rfl) ?_ (Or.inr ⟨?_, ?_⟩) (by assumption) ?_; rotate_left 2; (· (simp only [List.getElem?_toArray, List.getElem?_cons_succ, List.getElem?_cons_zero]; first | done | rfl)); (· exact (fun _ _ _ h => h)); (· rfl); (· rfl))
    (try simp only [Act.put, List.setIfInBounds_toArray, List.set_cons_zero, List.set_cons_succ])
    (refine wpAnyH_take (i := 5) (oi := ?_) (v := ?_) ?_ (by kernel_rfl) (by kernel_rfl) (by kernel_rfl) ?_ (Or.inr ⟨?_, ?_⟩) (by assumption) ?_; rotate_left 2; (· (simp only [List.getElem?_toArray, List.getElem?_cons_succ, List.getElem?_cons_zero]; first | done | rfl)); (· exact (fun _ _ _ h => h)); (· rfl); (· rfl))
    (try simp only [Act.put, List.setIfInBounds_toArray, List.set_cons_zero, List.set_cons_succ])
    (refine wpAnyH_take (i := 6) (oi := ?_) (v := ?_) ?_ (by kernel_rfl) (by kernel_rfl) (by kernel_rfl) ?_ (Or.inl ⟨?_, ?_⟩) (by assumption) ?_; rotate_left 2; (· (simp only [List.getElem?_toArray, List.getElem?_cons_succ, List.getElem?_cons_zero]; first | done | rfl)); (· exact (fun _ _ _ h => h)); (· rfl); (· (intro w hSw; (try dsimp only at hSw); go_simp; (try with_reducible rfl))))
    (try simp only [Act.put, List.setIfInBounds_toArray, List.set_cons_zero, List.set_cons_succ])
    (refine wpAnyH_take (i := 7) (oi := ?_) (v := ?_) ?_ (by kernel_rfl) (by kernel_rfl) (by kernel_rfl) ?_ (Or.inl ⟨?_, ?_⟩) (by assumption) ?_; rotate_left 2; (· (simp only [List.getElem?_toArray, List.getElem?_cons_succ, List.getElem?_cons_zero]; first | done | rfl)); (· exact (fun _ _ _ h => h)); (· rfl); (· (intro w hSw; (try dsimp only at hSw); go_simp; (try with_reducible rfl))))
    (try simp only [Act.put, List.setIfInBounds_toArray, List.set_cons_zero, List.set_cons_succ])
    (refine wpAnyH_take (i := 8) (oi := ?_) (v := ?_) ?_ (by kernel_rfl) (by kernel_rfl) (by kernel_rfl) ?_ (Or.inr ⟨?_, ?_⟩) (by assumption) ?_; rotate_left 2; (· (simp only [List.getElem?_toArray, List.getElem?_cons_succ, List.getElem?_cons_zero]; first | done | rfl)); (· exact (fun _ _ _ h => h)); (· rfl); (· rfl))
    (try simp only [Act.put, List.setIfInBounds_toArray, List.set_cons_zero, List.set_cons_succ])
    (refine wpAnyH_take (i := 9) (oi := ?_) (v := ?_) ?_ (by kernel_rfl) (by kernel_rfl) (by kernel_rfl) ?_ (Or.inr ⟨?_, ?_⟩) (by assumption) ?_; rotate_left 2; (· (simp only [List.getElem?_toArray, List.getElem?_cons_succ, List.getElem?_cons_zero]; first | done | rfl)); (· exact (fun _ _ _ h => h)); (· rfl); (· rfl))
    (try simp only [Act.put, List.setIfInBounds_toArray, List.set_cons_zero, List.set_cons_succ])
    (refine wpAnyH_take (i := 10) (oi := ?_) (v := ?_) ?_ (by kernel_rfl) (by kernel_rfl) (by kernel_rfl) ?_ (Or.inr ⟨?_, ?_⟩) (by assumption) ?_; rotate_left 2; (· (simp only [List.getElem?_toArray, List.getElem?_cons_succ, List.getElem?_cons_zero]; first | done | rfl)); (· exact (fun _ _ _ h => h)); (· rfl); (· rfl))
    (try simp only [Act.put, List.setIfInBounds_toArray, List.set_cons_zero, List.set_cons_succ])
    (refine wpAnyH_take (i := 11) (oi := ?_) (v := ?_) ?_ (by kernel_rfl) (by kernel_rfl) (by kernel_rfl) ?_ (Or.inl ⟨?_, ?_⟩) (by assumption) ?_; rotate_left 2; (· (simp only [List.getElem?_toArray, List.getElem?_cons_succ, List.getElem?_cons_zero]; first | done | rfl)); (· exact (fun _ _ _ h => h)); (· rfl); (· (intro w hSw; (try dsimp only at hSw); go_simp; (try with_reducible rfl))))
    (try simp only [Act.put, List.setIfInBounds_toArray, List.set_cons_zero, List.set_cons_succ])
    (refine wpAnyH_take (i := 12) (oi := ?_) (v := ?_) ?_ (by kernel_rfl) (by kernel_rfl) (by kernel_rfl) ?_ (Or.inl ⟨?_, ?_⟩) (by assumption) ?_; rotate_left 2; (· (simp only [List.getElem?_toArray, List.getElem?_cons_succ, List.getElem?_cons_zero]; first | done | rfl)); (· exact (fun _ _ _ h => h)); (· rfl); (· (intro w hSw; (try dsimp only at hSw); go_simp; (try with_reducible rfl))))
    (try simp only [Act.put, List.setIfInBounds_toArray, List.set_cons_zero, List.set_cons_succ])
    (refine wpAnyH_take (i := 13) (oi := ?_) (v := ?_) ?_ (by kernel_rfl) (by kernel_rfl) (by kernel_rfl) ?_ (Or.inr ⟨?_, ?_⟩) (by assumption) ?_; rotate_left 2; (· (simp only [List.getElem?_toArray, List.getElem?_cons_succ, List.getElem?_cons_zero]; first | done | rfl)); (· exact (fun _ _ _ h => h)); (· rfl); (· rfl))
    (try simp only [Act.put, List.setIfInBounds_toArray, List.set_cons_zero, List.set_cons_succ])
    (refine wpAnyH_take (i := 14) (oi := ?_) (v := ?_) ?_ (by kernel_rfl) (by kernel_rfl) (by kernel_rfl) ?_ (Or.inr ⟨?_, ?_⟩) (by assumption) ?_; rotate_left 2; (· (simp only [List.getElem?_toArray, List.getElem?_cons_succ, List.getElem?_cons_zero]; first | done | rfl)); (· exact (fun _ _ _ h => h)); (· rfl); (· rfl))
    (try simp only [Act.put, List.setIfInBounds_toArray, List.set_cons_zero, List.set_cons_succ])
    (refine wpAnyH_take (i := 15) (oi := ?_) (v := ?_) ?_ (by kernel_rfl) (by kernel_rfl) (by kernel_rfl) ?_ (Or.inr ⟨?_, ?_⟩) (by assumption) ?_; rotate_left 2; (· (simp only [List.getElem?_toArray, List.getElem?_cons_succ, List.getElem?_cons_zero]; first | done | rfl)); (· exact (fun _ _ _ h => h)); (· rfl); (· rfl))
    (try simp only [Act.put, List.setIfInBounds_toArray, List.set_cons_zero, List.set_cons_succ])
    (refine wpAnyH_take (i := 16) (oi := ?_) (v := ?_) ?_ (by kernel_rfl) (by kernel_rfl) (by kernel_rfl) ?_ (Or.inr ⟨?_, ?_⟩) (by assumption) ?_; rotate_left 2; (· (simp only [List.getElem?_toArray, List.getElem?_cons_succ, List.getElem?_cons_zero]; first | done | rfl)); (· exact (fun _ _ _ h => h)); (· rfl); (· rfl))
    (try simp only [Act.put, List.setIfInBounds_toArray, List.set_cons_zero, List.set_cons_succ])
    (refine wpAnyH_take (i := 17) (oi := ?_) (v := ?_) ?_ (by kernel_rfl) (by kernel_rfl) (by kernel_rfl) ?_ (Or.inr ⟨?_, ?_⟩) (by assumption) ?_; rotate_left 2; (· (simp only [List.getElem?_toArray, List.getElem?_cons_succ, List.getElem?_cons_zero]; first | done | rfl)); (· exact (fun _ _ _ h => h)); (· rfl); (· rfl))
    (try simp only [Act.put, List.setIfInBounds_toArray, List.set_cons_zero, List.set_cons_succ])
    (refine wpAnyH_take (i := 18) (oi := ?_) (v := ?_) ?_ (by kernel_rfl) (by kernel_rfl) (by kernel_rfl) ?_ (Or.inr ⟨?_, ?_⟩) (by assumption) ?_; rotate_left 2; (· (simp only [List.getElem?_toArray, List.getElem?_cons_succ, List.getElem?_cons_zero]; first | done | rfl)); (· exact (fun _ _ _ h => h)); (· rfl); (· rfl))
    (try simp only [Act.put, List.setIfInBounds_toArray, List.set_cons_zero, List.set_cons_succ])
    (refine wpAnyH_take (i := 19) (oi := ?_) (v := ?_) ?_ (by kernel_rfl) (by kernel_rfl) (by kernel_rfl) ?_ (Or.inr ⟨?_, ?_⟩) (by assumption) ?_; rotate_left 2; (· (simp only [List.getElem?_toArray, List.getElem?_cons_succ, List.getElem?_cons_zero]; first | done | rfl)); (· exact (fun _ _ _ h => h)); (· rfl); (· rfl))
    (try simp only [Act.put, List.setIfInBounds_toArray, List.set_cons_zero, List.set_cons_succ])
    (refine wpAnyH_take (i := 20) (oi := ?_) (v := ?_) ?_ (by kernel_rfl) (by kernel_rfl) (by kernel_rfl) ?_ (Or.inr ⟨?_, ?_⟩) (by assumption) ?_; rotate_left 2; (· (simp only [List.getElem?_toArray, List.getElem?_cons_succ, List.getElem?_cons_zero]; first | done | rfl)); (· exact (fun _ _ _ h => h)); (· rfl); (· rfl))
    (try simp only [Act.put, List.setIfInBounds_toArray, List.set_cons_zero, List.set_cons_succ])
    (refine wpAnyH_take (i := 21) (oi := ?_) (v := ?_) ?_ (by kernel_rfl) (by kernel_rfl) (by kernel_rfl) ?_ (Or.inr ⟨?_, ?_⟩) (by assumption) ?_; rotate_left 2; (· (simp only [List.getElem?_toArray, List.getElem?_cons_succ, List.getElem?_cons_zero]; first | done | rfl)); (· exact (fun _ _ _ h => h)); (· rfl); (· rfl))
    (try simp only [Act.put, List.setIfInBounds_toArray, List.set_cons_zero, List.set_cons_succ])
    (refine wpAnyH_take (i := 22) (oi := ?_) (v := ?_) ?_ (by kernel_rfl) (by kernel_rfl) (by kernel_rfl) ?_ (Or.inl ⟨?_, ?_⟩) (by assumption) ?_; rotate_left 2; (· (simp only [List.getElem?_toArray, List.getElem?_cons_succ, List.getElem?_cons_zero]; first | done | rfl)); (· exact (fun _ _ _ h => h)); (· rfl); (· (intro w hSw; (try dsimp only at hSw); go_simp; (try with_reducible rfl))))
    (try simp only [Act.put, List.setIfInBounds_toArray, List.set_cons_zero, List.set_cons_succ])
    refine wpAnyH_done (by kernel_rfl) ?_ _
    go_wp2
    go_ret
    exact ⟨by rw [HRES.out, if_neg h40, HOLD.out]; rfl, ck_own (by assumption)⟩
  obtain ⟨i, rfl⟩ := Int.eq_ofNat_of_zero_le (show 0 ≤ pl by omega)
  have hil : i < l.length := by omega
  have hol : oldB (ks l) (i : Int) = (l[i].k.kind != 4 && l[i].k.kind != 0 && !goneB (ks l) i) := by
    unfold oldB
    rw [ks_len, show decide ((0 : Int) ≤ (i : Int)) = true from decide_eq_true (by omega), show decide ((i : Int) < (l.length : Int)) = true from decide_eq_true (by omega), show ((i : Int).toNat) = i from by omega, ks_get l i hil]
    rfl
  have hri2 (W : World) (h : Below w.heap.size w W) := HRI.out i W h hil
  have hgo2 (W : World) (h : Below w.heap.size w W) := HGO.out (i : Int) W h
  obtain ⟨ko, hko⟩ : ∃ ko : Int, ko = l[i].k.kind := ⟨_, rfl⟩
  rw [← hko] at hol
  generalize l[i] = old at *
  generalize goneB (ks l) (i : Int) = G at *
  generalize oldB (ks l) (i : Int) = OB at *
  have HRI2 := Lib.hid hri2; have HGO2 := Lib.hid hgo2; have HOL := Lib.hid hol; have HKO := Lib.hid hko
  clear hri2 hgo2 hol hko HRI HGO HRU hout
  go_enter Tryz.func14, Tryz.ntmps14
  go_wp2_with (first | (go_at_call 22; refine (HK.out _ (by repeat (first | assumption | (with_reducible exact Below.refl _ _) | exact balloc _ _ | exact balloc2 _ _ _ | refine btrans ?_ (by assumption) | refine btrans ?_ (balloc _ _)))).mono ?_; rintro e w1 ⟨rfl, hb1⟩; obtain ⟨hc1, hf1⟩ := bcell hb1) | (go_at_call 11; refine (HRI2.out _ (by repeat (first | assumption | (with_reducible exact Below.refl _ _) | exact balloc _ _ | exact balloc2 _ _ _ | refine btrans ?_ (by assumption) | refine btrans ?_ (balloc _ _)))).mono ?_; rintro e w2 ⟨rfl, hb2⟩; obtain ⟨hc2, hf2⟩ := bcell hb2) | fail)
  have HSS := Lib.hid (ck_start (v := .int .i64 i) (x := .int .i64 ko) (B := #[.int .i64 old.k.kind, .int .i64 old.k.tenant, .string ⟨old.k.who.toArray⟩, .int .i64 old.br, .string ⟨old.sc.toArray⟩, .slice old.c0 old.cn old.cc, .string ⟨old.nm.toArray⟩, .int .i64 old.k.pl]) (U := 33) h0 hb1 hb2 rfl (by rw [HKO.out]; rfl))
  generalize World.alloc w2 _ = W0 at *
  clear hb1 hb2 hc1 hf1 hc2 hf2 h0
  cases k4 : (ko == 4)
  rotate_left
  · skip
    refine wp_region_held_drew (S := (fun w' => w'.cell? ⟨b, 0, none⟩ = some (.slice a0 l.length cap) ∧ w'.cell? ⟨w.heap.size, 7, none⟩ = some (.int .i64 (i : Int)) ∧ w'.cell? ⟨w2.heap.size, 0, none⟩ = some (.int .i64 ko) ∧ Below w.heap.size w w')) (by kernel_rfl) ?_ (fun hq0 => ?_)
    · ((try dsimp only); (first | exact HSS.out | exact ck_below (bdrewN (Below.refl _ _) 1) HSS.out | assumption | exact ck_below (by assumption) (by assumption)))
    (refine wpAnyH_take (i := 0) (oi := ?_) (v := ?_) ?_ (by kernel_rfl) (by kernel_rfl) (by kernel_rfl) ?_ (Or.inl ⟨?_, ?_⟩) (by assumption) ?_; rotate_left 2; (· (simp only [List.getElem?_toArray, List.getElem?_cons_zero]; first | done | rfl)); (· exact (fun _ _ _ h => h)); (· rfl); (· (intro w hSw; (try dsimp only at hSw); go_simp; (try with_reducible rfl))))
    (try simp only [Act.put, List.setIfInBounds_toArray, List.set_cons_zero, List.set_cons_succ])
    (refine wpAnyH_take (i := 1) (oi := ?_) (v := ?_) ?_ (by kernel_rfl) (by kernel_rfl) (by kernel_rfl) ?_ (Or.inl ⟨?_, ?_⟩) (by assumption) ?_; rotate_left 2; (· (simp only [List.getElem?_toArray, List.getElem?_cons_succ, List.getElem?_cons_zero]; first | done | rfl)); (· exact (fun _ _ _ h => h)); (· rfl); (· (intro w hSw; (try dsimp only at hSw); go_simp; (try with_reducible rfl))))
    (try simp only [Act.put, List.setIfInBounds_toArray, List.set_cons_zero, List.set_cons_succ])
    (refine wpAnyH_take (i := 2) (oi := ?_) (v := ?_) ?_ (by kernel_rfl) (by kernel_rfl) (by kernel_rfl) ?_ (Or.inl ⟨?_, ?_⟩) (by assumption) ?_; rotate_left 2; (· (simp only [List.getElem?_toArray, List.getElem?_cons_succ, List.getElem?_cons_zero]; first | done | rfl)); (· exact (fun _ _ _ h => h)); (· rfl); (· (intro w hSw; (try dsimp only at hSw); go_simp; (try with_reducible rfl))))
    (try simp only [Act.put, List.setIfInBounds_toArray, List.set_cons_zero, List.set_cons_succ])
    (refine wpAnyH_take (i := 3) (oi := ?_) (v := ?_) ?_ (by kernel_rfl) (by kernel_rfl) (by kernel_rfl) ?_ (Or.inl ⟨?_, ?_⟩) (by assumption) ?_; rotate_left 2; (· (simp only [List.getElem?_toArray, List.getElem?_cons_succ, List.getElem?_cons_zero]; first | done | rfl)); (· exact (fun _ _ _ h => h)); (· rfl); (· (intro w hSw; (try dsimp only at hSw); go_simp; (try with_reducible rfl))))
    (try simp only [Act.put, List.setIfInBounds_toArray, List.set_cons_zero, List.set_cons_succ])
    (refine wpAnyH_take (i := 4) (oi := ?_) (v := ?_) ?_ (by kernel_rfl) (by kernel_rfl) (by kernel_rfl) ?_ (Or.inl ⟨?_, ?_⟩) (by assumption) ?_; rotate_left 2; (· (simp only [List.getElem?_toArray, List.getElem?_cons_succ, List.getElem?_cons_zero]; first | done | rfl)); (· exact (fun _ _ _ h => h)); (· rfl); (· (intro w hSw; (try dsimp only at hSw); go_simp; (try with_reducible rfl))))
    (try simp only [Act.put, List.setIfInBounds_toArray, List.set_cons_zero, List.set_cons_succ])
    (refine wpAnyH_take (i := 5) (oi := ?_) (v := ?_) ?_ (by kernel_rfl) (by kernel_rfl) (by kernel_rfl) ?_ (Or.inl ⟨?_, ?_⟩) (by assumption) ?_; rotate_left 2; (· (simp only [List.getElem?_toArray, List.getElem?_cons_succ, List.getElem?_cons_zero]; first | done | rfl)); (· exact (fun _ _ _ h => h)); (· rfl); (· (intro w hSw; (try dsimp only at hSw); go_simp; (try with_reducible rfl))))
    (try simp only [Act.put, List.setIfInBounds_toArray, List.set_cons_zero, List.set_cons_succ])
    (refine wpAnyH_take (i := 6) (oi := ?_) (v := ?_) ?_ (by kernel_rfl) (by kernel_rfl) (by kernel_rfl) ?_ (Or.inl ⟨?_, ?_⟩) (by assumption) ?_; rotate_left 2; (· (simp only [List.getElem?_toArray, List.getElem?_cons_succ, List.getElem?_cons_zero]; first | done | rfl)); (· exact (fun _ _ _ h => h)); (· rfl); (· (intro w hSw; (try dsimp only at hSw); go_simp; (try with_reducible rfl))))
    (try simp only [Act.put, List.setIfInBounds_toArray, List.set_cons_zero, List.set_cons_succ])
    (refine wpAnyH_take (i := 7) (oi := ?_) (v := ?_) ?_ (by kernel_rfl) (by kernel_rfl) (by kernel_rfl) ?_ (Or.inl ⟨?_, ?_⟩) (by assumption) ?_; rotate_left 2; (· (simp only [List.getElem?_toArray, List.getElem?_cons_succ, List.getElem?_cons_zero]; first | done | rfl)); (· exact (fun _ _ _ h => h)); (· rfl); (· (intro w hSw; (try dsimp only at hSw); go_simp; (try with_reducible rfl))))
    (try simp only [Act.put, List.setIfInBounds_toArray, List.set_cons_zero, List.set_cons_succ])
    (refine wpAnyH_take (i := 8) (oi := ?_) (v := ?_) ?_ (by kernel_rfl) (by kernel_rfl) (by kernel_rfl) ?_ (Or.inr ⟨?_, ?_⟩) (by assumption) ?_; rotate_left 2; (· (simp only [List.getElem?_toArray, List.getElem?_cons_succ, List.getElem?_cons_zero]; first | done | rfl)); (· exact (fun _ _ _ h => h)); (· rfl); (· rfl))
    (try simp only [Act.put, List.setIfInBounds_toArray, List.set_cons_zero, List.set_cons_succ])
    (refine wpAnyH_take (i := 9) (oi := ?_) (v := ?_) ?_ (by kernel_rfl) (by kernel_rfl) (by kernel_rfl) ?_ (Or.inr ⟨?_, ?_⟩) (by assumption) ?_; rotate_left 2; (· (simp only [List.getElem?_toArray, List.getElem?_cons_succ, List.getElem?_cons_zero]; first | done | rfl)); (· exact (fun _ _ _ h => h)); (· rfl); (· rfl))
    (try simp only [Act.put, List.setIfInBounds_toArray, List.set_cons_zero, List.set_cons_succ])
    (refine wpAnyH_take (i := 10) (oi := ?_) (v := ?_) ?_ (by kernel_rfl) (by kernel_rfl) (by kernel_rfl) ?_ (Or.inr ⟨?_, ?_⟩) (by assumption) ?_; rotate_left 2; (· (simp only [List.getElem?_toArray, List.getElem?_cons_succ, List.getElem?_cons_zero]; first | done | rfl)); (· exact (fun _ _ _ h => h)); (· rfl); (· rfl))
    (try simp only [Act.put, List.setIfInBounds_toArray, List.set_cons_zero, List.set_cons_succ])
    (refine wpAnyH_take (i := 11) (oi := ?_) (v := ?_) ?_ (by kernel_rfl) (by kernel_rfl) (by kernel_rfl) ?_ (Or.inl ⟨?_, ?_⟩) (by assumption) ?_; rotate_left 2; (· (simp only [List.getElem?_toArray, List.getElem?_cons_succ, List.getElem?_cons_zero]; first | done | rfl)); (· exact (fun _ _ _ h => h)); (· rfl); (· (intro w hSw; (try dsimp only at hSw); go_simp; (try with_reducible rfl))))
    (try simp only [Act.put, List.setIfInBounds_toArray, List.set_cons_zero, List.set_cons_succ])
    (refine wpAnyH_take (i := 12) (oi := ?_) (v := ?_) ?_ (by kernel_rfl) (by kernel_rfl) (by kernel_rfl) ?_ (Or.inl ⟨?_, ?_⟩) (by assumption) ?_; rotate_left 2; (· (simp only [List.getElem?_toArray, List.getElem?_cons_succ, List.getElem?_cons_zero]; first | done | rfl)); (· exact (fun _ _ _ h => h)); (· rfl); (· (intro w hSw; (try dsimp only at hSw); go_simp; (try with_reducible rfl))))
    (try simp only [Act.put, List.setIfInBounds_toArray, List.set_cons_zero, List.set_cons_succ])
    (refine wpAnyH_take (i := 13) (oi := ?_) (v := ?_) ?_ (by kernel_rfl) (by kernel_rfl) (by kernel_rfl) ?_ (Or.inr ⟨?_, ?_⟩) (by assumption) ?_; rotate_left 2; (· (simp only [List.getElem?_toArray, List.getElem?_cons_succ, List.getElem?_cons_zero]; first | done | rfl)); (· exact (fun _ _ _ h => h)); (· rfl); (· rfl))
    (try simp only [Act.put, List.setIfInBounds_toArray, List.set_cons_zero, List.set_cons_succ])
    (refine wpAnyH_take (i := 14) (oi := ?_) (v := ?_) ?_ (by kernel_rfl) (by kernel_rfl) (by kernel_rfl) ?_ (Or.inr ⟨?_, ?_⟩) (by assumption) ?_; rotate_left 2; (· (simp only [List.getElem?_toArray, List.getElem?_cons_succ, List.getElem?_cons_zero]; first | done | rfl)); (· exact (fun _ _ _ h => h)); (· rfl); (· rfl))
    (try simp only [Act.put, List.setIfInBounds_toArray, List.set_cons_zero, List.set_cons_succ])
    (refine wpAnyH_take (i := 15) (oi := ?_) (v := ?_) ?_ (by kernel_rfl) (by kernel_rfl) (by kernel_rfl) ?_ (Or.inr ⟨?_, ?_⟩) (by assumption) ?_; rotate_left 2; (· (simp only [List.getElem?_toArray, List.getElem?_cons_succ, List.getElem?_cons_zero]; first | done | rfl)); (· exact (fun _ _ _ h => h)); (· rfl); (· rfl))
    (try simp only [Act.put, List.setIfInBounds_toArray, List.set_cons_zero, List.set_cons_succ])
    (refine wpAnyH_take (i := 16) (oi := ?_) (v := ?_) ?_ (by kernel_rfl) (by kernel_rfl) (by kernel_rfl) ?_ (Or.inr ⟨?_, ?_⟩) (by assumption) ?_; rotate_left 2; (· (simp only [List.getElem?_toArray, List.getElem?_cons_succ, List.getElem?_cons_zero]; first | done | rfl)); (· exact (fun _ _ _ h => h)); (· rfl); (· rfl))
    (try simp only [Act.put, List.setIfInBounds_toArray, List.set_cons_zero, List.set_cons_succ])
    (refine wpAnyH_take (i := 17) (oi := ?_) (v := ?_) ?_ (by kernel_rfl) (by kernel_rfl) (by kernel_rfl) ?_ (Or.inr ⟨?_, ?_⟩) (by assumption) ?_; rotate_left 2; (· (simp only [List.getElem?_toArray, List.getElem?_cons_succ, List.getElem?_cons_zero]; first | done | rfl)); (· exact (fun _ _ _ h => h)); (· rfl); (· rfl))
    (try simp only [Act.put, List.setIfInBounds_toArray, List.set_cons_zero, List.set_cons_succ])
    (refine wpAnyH_take (i := 18) (oi := ?_) (v := ?_) ?_ (by kernel_rfl) (by kernel_rfl) (by kernel_rfl) ?_ (Or.inr ⟨?_, ?_⟩) (by assumption) ?_; rotate_left 2; (· (simp only [List.getElem?_toArray, List.getElem?_cons_succ, List.getElem?_cons_zero]; first | done | rfl)); (· exact (fun _ _ _ h => h)); (· rfl); (· rfl))
    (try simp only [Act.put, List.setIfInBounds_toArray, List.set_cons_zero, List.set_cons_succ])
    (refine wpAnyH_take (i := 19) (oi := ?_) (v := ?_) ?_ (by kernel_rfl) (by kernel_rfl) (by kernel_rfl) ?_ (Or.inr ⟨?_, ?_⟩) (by assumption) ?_; rotate_left 2; (· (simp only [List.getElem?_toArray, List.getElem?_cons_succ, List.getElem?_cons_zero]; first | done | rfl)); (· exact (fun _ _ _ h => h)); (· rfl); (· rfl))
    (try simp only [Act.put, List.setIfInBounds_toArray, List.set_cons_zero, List.set_cons_succ])
    (refine wpAnyH_take (i := 20) (oi := ?_) (v := ?_) ?_ (by kernel_rfl) (by kernel_rfl) (by kernel_rfl) ?_ (Or.inr ⟨?_, ?_⟩) (by assumption) ?_; rotate_left 2; (· (simp only [List.getElem?_toArray, List.getElem?_cons_succ, List.getElem?_cons_zero]; first | done | rfl)); (· exact (fun _ _ _ h => h)); (· rfl); (· rfl))
    (try simp only [Act.put, List.setIfInBounds_toArray, List.set_cons_zero, List.set_cons_succ])
    (refine wpAnyH_take (i := 21) (oi := ?_) (v := ?_) ?_ (by kernel_rfl) (by kernel_rfl) (by kernel_rfl) ?_ (Or.inr ⟨?_, ?_⟩) (by assumption) ?_; rotate_left 2; (· (simp only [List.getElem?_toArray, List.getElem?_cons_succ, List.getElem?_cons_zero]; first | done | rfl)); (· exact (fun _ _ _ h => h)); (· rfl); (· rfl))
    (try simp only [Act.put, List.setIfInBounds_toArray, List.set_cons_zero, List.set_cons_succ])
    (refine wpAnyH_take (i := 22) (oi := ?_) (v := ?_) ?_ (by kernel_rfl) (by kernel_rfl) (by kernel_rfl) ?_ (Or.inl ⟨?_, ?_⟩) (by assumption) ?_; rotate_left 2; (· (simp only [List.getElem?_toArray, List.getElem?_cons_succ, List.getElem?_cons_zero]; first | done | rfl)); (· exact (fun _ _ _ h => h)); (· rfl); (· (intro w hSw; (try dsimp only at hSw); go_simp; (try with_reducible rfl))))
    (try simp only [Act.put, List.setIfInBounds_toArray, List.set_cons_zero, List.set_cons_succ])
    refine wpAnyH_done (by kernel_rfl) ?_ _
    go_wp2
    go_ret
    exact ⟨by rw [HRES.out, if_neg h40, HOL.out, bne, k4]; rfl, ck_own (by assumption)⟩
  cases k0 : (ko == 0)
  rotate_left
  · skip
    refine wp_region_held_drew (S := (fun w' => w'.cell? ⟨b, 0, none⟩ = some (.slice a0 l.length cap) ∧ w'.cell? ⟨w.heap.size, 7, none⟩ = some (.int .i64 (i : Int)) ∧ w'.cell? ⟨w2.heap.size, 0, none⟩ = some (.int .i64 ko) ∧ Below w.heap.size w w')) (by kernel_rfl) ?_ (fun hq0 => ?_)
    · ((try dsimp only); (first | exact HSS.out | exact ck_below (bdrewN (Below.refl _ _) 1) HSS.out | assumption | exact ck_below (by assumption) (by assumption)))
    (refine wpAnyH_take (i := 0) (oi := ?_) (v := ?_) ?_ (by kernel_rfl) (by kernel_rfl) (by kernel_rfl) ?_ (Or.inl ⟨?_, ?_⟩) (by assumption) ?_; rotate_left 2; (· (simp only [List.getElem?_toArray, List.getElem?_cons_zero]; first | done | rfl)); (· exact (fun _ _ _ h => h)); (· rfl); (· (intro w hSw; (try dsimp only at hSw); go_simp; (try with_reducible rfl))))
    (try simp only [Act.put, List.setIfInBounds_toArray, List.set_cons_zero, List.set_cons_succ])
    (refine wpAnyH_take (i := 1) (oi := ?_) (v := ?_) ?_ (by kernel_rfl) (by kernel_rfl) (by kernel_rfl) ?_ (Or.inl ⟨?_, ?_⟩) (by assumption) ?_; rotate_left 2; (· (simp only [List.getElem?_toArray, List.getElem?_cons_succ, List.getElem?_cons_zero]; first | done | rfl)); (· exact (fun _ _ _ h => h)); (· rfl); (· (intro w hSw; (try dsimp only at hSw); go_simp; (try with_reducible rfl))))
    (try simp only [Act.put, List.setIfInBounds_toArray, List.set_cons_zero, List.set_cons_succ])
    (refine wpAnyH_take (i := 2) (oi := ?_) (v := ?_) ?_ (by kernel_rfl) (by kernel_rfl) (by kernel_rfl) ?_ (Or.inl ⟨?_, ?_⟩) (by assumption) ?_; rotate_left 2; (· (simp only [List.getElem?_toArray, List.getElem?_cons_succ, List.getElem?_cons_zero]; first | done | rfl)); (· exact (fun _ _ _ h => h)); (· rfl); (· (intro w hSw; (try dsimp only at hSw); go_simp; (try with_reducible rfl))))
    (try simp only [Act.put, List.setIfInBounds_toArray, List.set_cons_zero, List.set_cons_succ])
    (refine wpAnyH_take (i := 3) (oi := ?_) (v := ?_) ?_ (by kernel_rfl) (by kernel_rfl) (by kernel_rfl) ?_ (Or.inl ⟨?_, ?_⟩) (by assumption) ?_; rotate_left 2; (· (simp only [List.getElem?_toArray, List.getElem?_cons_succ, List.getElem?_cons_zero]; first | done | rfl)); (· exact (fun _ _ _ h => h)); (· rfl); (· (intro w hSw; (try dsimp only at hSw); go_simp; (try with_reducible rfl))))
    (try simp only [Act.put, List.setIfInBounds_toArray, List.set_cons_zero, List.set_cons_succ])
    (refine wpAnyH_take (i := 4) (oi := ?_) (v := ?_) ?_ (by kernel_rfl) (by kernel_rfl) (by kernel_rfl) ?_ (Or.inl ⟨?_, ?_⟩) (by assumption) ?_; rotate_left 2; (· (simp only [List.getElem?_toArray, List.getElem?_cons_succ, List.getElem?_cons_zero]; first | done | rfl)); (· exact (fun _ _ _ h => h)); (· rfl); (· (intro w hSw; (try dsimp only at hSw); go_simp; (try with_reducible rfl))))
    (try simp only [Act.put, List.setIfInBounds_toArray, List.set_cons_zero, List.set_cons_succ])
    (refine wpAnyH_take (i := 5) (oi := ?_) (v := ?_) ?_ (by kernel_rfl) (by kernel_rfl) (by kernel_rfl) ?_ (Or.inl ⟨?_, ?_⟩) (by assumption) ?_; rotate_left 2; (· (simp only [List.getElem?_toArray, List.getElem?_cons_succ, List.getElem?_cons_zero]; first | done | rfl)); (· exact (fun _ _ _ h => h)); (· rfl); (· (intro w hSw; (try dsimp only at hSw); go_simp; (try with_reducible rfl))))
    (try simp only [Act.put, List.setIfInBounds_toArray, List.set_cons_zero, List.set_cons_succ])
    (refine wpAnyH_take (i := 6) (oi := ?_) (v := ?_) ?_ (by kernel_rfl) (by kernel_rfl) (by kernel_rfl) ?_ (Or.inl ⟨?_, ?_⟩) (by assumption) ?_; rotate_left 2; (· (simp only [List.getElem?_toArray, List.getElem?_cons_succ, List.getElem?_cons_zero]; first | done | rfl)); (· exact (fun _ _ _ h => h)); (· rfl); (· (intro w hSw; (try dsimp only at hSw); go_simp; (try with_reducible rfl))))
    (try simp only [Act.put, List.setIfInBounds_toArray, List.set_cons_zero, List.set_cons_succ])
    (refine wpAnyH_take (i := 7) (oi := ?_) (v := ?_) ?_ (by kernel_rfl) (by kernel_rfl) (by kernel_rfl) ?_ (Or.inl ⟨?_, ?_⟩) (by assumption) ?_; rotate_left 2; (· (simp only [List.getElem?_toArray, List.getElem?_cons_succ, List.getElem?_cons_zero]; first | done | rfl)); (· exact (fun _ _ _ h => h)); (· rfl); (· (intro w hSw; (try dsimp only at hSw); go_simp; (try with_reducible rfl))))
    (try simp only [Act.put, List.setIfInBounds_toArray, List.set_cons_zero, List.set_cons_succ])
    (refine wpAnyH_take (i := 8) (oi := ?_) (v := ?_) ?_ (by kernel_rfl) (by kernel_rfl) (by kernel_rfl) ?_ (Or.inl ⟨?_, ?_⟩) (by assumption) ?_; rotate_left 2; (· (simp only [List.getElem?_toArray, List.getElem?_cons_succ, List.getElem?_cons_zero]; first | done | rfl)); (· exact (fun _ _ _ h => h)); (· rfl); (· (intro w hSw; (try dsimp only at hSw); go_simp; (try with_reducible rfl))))
    (try simp only [Act.put, List.setIfInBounds_toArray, List.set_cons_zero, List.set_cons_succ])
    (refine wpAnyH_take (i := 9) (oi := ?_) (v := ?_) ?_ (by kernel_rfl) (by kernel_rfl) (by kernel_rfl) ?_ (Or.inl ⟨?_, ?_⟩) (by assumption) ?_; rotate_left 2; (· (simp only [List.getElem?_toArray, List.getElem?_cons_succ, List.getElem?_cons_zero]; first | done | rfl)); (· exact (fun _ _ _ h => h)); (· rfl); (· (intro w hSw; (try dsimp only at hSw); go_simp; (try with_reducible rfl))))
    (try simp only [Act.put, List.setIfInBounds_toArray, List.set_cons_zero, List.set_cons_succ])
    (refine wpAnyH_take (i := 10) (oi := ?_) (v := ?_) ?_ (by kernel_rfl) (by kernel_rfl) (by kernel_rfl) ?_ (Or.inl ⟨?_, ?_⟩) (by assumption) ?_; rotate_left 2; (· (simp only [List.getElem?_toArray, List.getElem?_cons_succ, List.getElem?_cons_zero]; first | done | rfl)); (· exact (fun _ _ _ h => h)); (· rfl); (· (intro w hSw; (try dsimp only at hSw); go_simp; (try with_reducible rfl))))
    (try simp only [Act.put, List.setIfInBounds_toArray, List.set_cons_zero, List.set_cons_succ])
    (refine wpAnyH_take (i := 11) (oi := ?_) (v := ?_) ?_ (by kernel_rfl) (by kernel_rfl) (by kernel_rfl) ?_ (Or.inl ⟨?_, ?_⟩) (by assumption) ?_; rotate_left 2; (· (simp only [List.getElem?_toArray, List.getElem?_cons_succ, List.getElem?_cons_zero]; first | done | rfl)); (· exact (fun _ _ _ h => h)); (· rfl); (· (intro w hSw; (try dsimp only at hSw); go_simp; (try with_reducible rfl))))
    (try simp only [Act.put, List.setIfInBounds_toArray, List.set_cons_zero, List.set_cons_succ])
    (refine wpAnyH_take (i := 12) (oi := ?_) (v := ?_) ?_ (by kernel_rfl) (by kernel_rfl) (by kernel_rfl) ?_ (Or.inl ⟨?_, ?_⟩) (by assumption) ?_; rotate_left 2; (· (simp only [List.getElem?_toArray, List.getElem?_cons_succ, List.getElem?_cons_zero]; first | done | rfl)); (· exact (fun _ _ _ h => h)); (· rfl); (· (intro w hSw; (try dsimp only at hSw); go_simp; (try with_reducible rfl))))
    (try simp only [Act.put, List.setIfInBounds_toArray, List.set_cons_zero, List.set_cons_succ])
    (refine wpAnyH_take (i := 13) (oi := ?_) (v := ?_) ?_ (by kernel_rfl) (by kernel_rfl) (by kernel_rfl) ?_ (Or.inr ⟨?_, ?_⟩) (by assumption) ?_; rotate_left 2; (· (simp only [List.getElem?_toArray, List.getElem?_cons_succ, List.getElem?_cons_zero]; first | done | rfl)); (· exact (fun _ _ _ h => h)); (· rfl); (· rfl))
    (try simp only [Act.put, List.setIfInBounds_toArray, List.set_cons_zero, List.set_cons_succ])
    (refine wpAnyH_take (i := 14) (oi := ?_) (v := ?_) ?_ (by kernel_rfl) (by kernel_rfl) (by kernel_rfl) ?_ (Or.inr ⟨?_, ?_⟩) (by assumption) ?_; rotate_left 2; (· (simp only [List.getElem?_toArray, List.getElem?_cons_succ, List.getElem?_cons_zero]; first | done | rfl)); (· exact (fun _ _ _ h => h)); (· rfl); (· rfl))
    (try simp only [Act.put, List.setIfInBounds_toArray, List.set_cons_zero, List.set_cons_succ])
    (refine wpAnyH_take (i := 15) (oi := ?_) (v := ?_) ?_ (by kernel_rfl) (by kernel_rfl) (by kernel_rfl) ?_ (Or.inr ⟨?_, ?_⟩) (by assumption) ?_; rotate_left 2; (· (simp only [List.getElem?_toArray, List.getElem?_cons_succ, List.getElem?_cons_zero]; first | done | rfl)); (· exact (fun _ _ _ h => h)); (· rfl); (· rfl))
    (try simp only [Act.put, List.setIfInBounds_toArray, List.set_cons_zero, List.set_cons_succ])
    (refine wpAnyH_take (i := 16) (oi := ?_) (v := ?_) ?_ (by kernel_rfl) (by kernel_rfl) (by kernel_rfl) ?_ (Or.inr ⟨?_, ?_⟩) (by assumption) ?_; rotate_left 2; (· (simp only [List.getElem?_toArray, List.getElem?_cons_succ, List.getElem?_cons_zero]; first | done | rfl)); (· exact (fun _ _ _ h => h)); (· rfl); (· rfl))
    (try simp only [Act.put, List.setIfInBounds_toArray, List.set_cons_zero, List.set_cons_succ])
    (refine wpAnyH_take (i := 17) (oi := ?_) (v := ?_) ?_ (by kernel_rfl) (by kernel_rfl) (by kernel_rfl) ?_ (Or.inr ⟨?_, ?_⟩) (by assumption) ?_; rotate_left 2; (· (simp only [List.getElem?_toArray, List.getElem?_cons_succ, List.getElem?_cons_zero]; first | done | rfl)); (· exact (fun _ _ _ h => h)); (· rfl); (· rfl))
    (try simp only [Act.put, List.setIfInBounds_toArray, List.set_cons_zero, List.set_cons_succ])
    (refine wpAnyH_take (i := 18) (oi := ?_) (v := ?_) ?_ (by kernel_rfl) (by kernel_rfl) (by kernel_rfl) ?_ (Or.inr ⟨?_, ?_⟩) (by assumption) ?_; rotate_left 2; (· (simp only [List.getElem?_toArray, List.getElem?_cons_succ, List.getElem?_cons_zero]; first | done | rfl)); (· exact (fun _ _ _ h => h)); (· rfl); (· rfl))
    (try simp only [Act.put, List.setIfInBounds_toArray, List.set_cons_zero, List.set_cons_succ])
    (refine wpAnyH_take (i := 19) (oi := ?_) (v := ?_) ?_ (by kernel_rfl) (by kernel_rfl) (by kernel_rfl) ?_ (Or.inr ⟨?_, ?_⟩) (by assumption) ?_; rotate_left 2; (· (simp only [List.getElem?_toArray, List.getElem?_cons_succ, List.getElem?_cons_zero]; first | done | rfl)); (· exact (fun _ _ _ h => h)); (· rfl); (· rfl))
    (try simp only [Act.put, List.setIfInBounds_toArray, List.set_cons_zero, List.set_cons_succ])
    (refine wpAnyH_take (i := 20) (oi := ?_) (v := ?_) ?_ (by kernel_rfl) (by kernel_rfl) (by kernel_rfl) ?_ (Or.inr ⟨?_, ?_⟩) (by assumption) ?_; rotate_left 2; (· (simp only [List.getElem?_toArray, List.getElem?_cons_succ, List.getElem?_cons_zero]; first | done | rfl)); (· exact (fun _ _ _ h => h)); (· rfl); (· rfl))
    (try simp only [Act.put, List.setIfInBounds_toArray, List.set_cons_zero, List.set_cons_succ])
    (refine wpAnyH_take (i := 21) (oi := ?_) (v := ?_) ?_ (by kernel_rfl) (by kernel_rfl) (by kernel_rfl) ?_ (Or.inr ⟨?_, ?_⟩) (by assumption) ?_; rotate_left 2; (· (simp only [List.getElem?_toArray, List.getElem?_cons_succ, List.getElem?_cons_zero]; first | done | rfl)); (· exact (fun _ _ _ h => h)); (· rfl); (· rfl))
    (try simp only [Act.put, List.setIfInBounds_toArray, List.set_cons_zero, List.set_cons_succ])
    (refine wpAnyH_take (i := 22) (oi := ?_) (v := ?_) ?_ (by kernel_rfl) (by kernel_rfl) (by kernel_rfl) ?_ (Or.inl ⟨?_, ?_⟩) (by assumption) ?_; rotate_left 2; (· (simp only [List.getElem?_toArray, List.getElem?_cons_succ, List.getElem?_cons_zero]; first | done | rfl)); (· exact (fun _ _ _ h => h)); (· rfl); (· (intro w hSw; (try dsimp only at hSw); go_simp; (try with_reducible rfl))))
    (try simp only [Act.put, List.setIfInBounds_toArray, List.set_cons_zero, List.set_cons_succ])
    refine wpAnyH_done (by kernel_rfl) ?_ _
    go_wp2
    go_ret
    exact ⟨by rw [HRES.out, if_neg h40, HOL.out, bne, k4, bne, k0]; rfl, ck_own (by assumption)⟩
  cases G
  · skip
    refine wp_region_held_drew (S := (fun w' => w'.cell? ⟨b, 0, none⟩ = some (.slice a0 l.length cap) ∧ w'.cell? ⟨w.heap.size, 7, none⟩ = some (.int .i64 (i : Int)) ∧ w'.cell? ⟨w2.heap.size, 0, none⟩ = some (.int .i64 ko) ∧ Below w.heap.size w w')) (by kernel_rfl) ?_ (fun hq0 => ?_)
    · ((try dsimp only); (first | exact HSS.out | exact ck_below (bdrewN (Below.refl _ _) 1) HSS.out | assumption | exact ck_below (by assumption) (by assumption)))
    (refine wpAnyH_take (i := 0) (oi := ?_) (v := ?_) ?_ (by kernel_rfl) (by kernel_rfl) (by kernel_rfl) ?_ (Or.inl ⟨?_, ?_⟩) (by assumption) ?_; rotate_left 2; (· (simp only [List.getElem?_toArray, List.getElem?_cons_zero]; first | done | rfl)); (· exact (fun _ _ _ h => h)); (· rfl); (· (intro w hSw; (try dsimp only at hSw); go_simp; (try with_reducible rfl))))
    (try simp only [Act.put, List.setIfInBounds_toArray, List.set_cons_zero, List.set_cons_succ])
    (refine wpAnyH_take (i := 1) (oi := ?_) (v := ?_) ?_ (by kernel_rfl) (by kernel_rfl) (by kernel_rfl) ?_ (Or.inl ⟨?_, ?_⟩) (by assumption) ?_; rotate_left 2; (· (simp only [List.getElem?_toArray, List.getElem?_cons_succ, List.getElem?_cons_zero]; first | done | rfl)); (· exact (fun _ _ _ h => h)); (· rfl); (· (intro w hSw; (try dsimp only at hSw); go_simp; (try with_reducible rfl))))
    (try simp only [Act.put, List.setIfInBounds_toArray, List.set_cons_zero, List.set_cons_succ])
    (refine wpAnyH_take (i := 2) (oi := ?_) (v := ?_) ?_ (by kernel_rfl) (by kernel_rfl) (by kernel_rfl) ?_ (Or.inl ⟨?_, ?_⟩) (by assumption) ?_; rotate_left 2; (· (simp only [List.getElem?_toArray, List.getElem?_cons_succ, List.getElem?_cons_zero]; first | done | rfl)); (· exact (fun _ _ _ h => h)); (· rfl); (· (intro w hSw; (try dsimp only at hSw); go_simp; (try with_reducible rfl))))
    (try simp only [Act.put, List.setIfInBounds_toArray, List.set_cons_zero, List.set_cons_succ])
    (refine wpAnyH_take (i := 3) (oi := ?_) (v := ?_) ?_ (by kernel_rfl) (by kernel_rfl) (by kernel_rfl) ?_ (Or.inl ⟨?_, ?_⟩) (by assumption) ?_; rotate_left 2; (· (simp only [List.getElem?_toArray, List.getElem?_cons_succ, List.getElem?_cons_zero]; first | done | rfl)); (· exact (fun _ _ _ h => h)); (· rfl); (· (intro w hSw; (try dsimp only at hSw); go_simp; (try with_reducible rfl))))
    (try simp only [Act.put, List.setIfInBounds_toArray, List.set_cons_zero, List.set_cons_succ])
    (refine wpAnyH_take (i := 4) (oi := ?_) (v := ?_) ?_ (by kernel_rfl) (by kernel_rfl) (by kernel_rfl) ?_ (Or.inl ⟨?_, ?_⟩) (by assumption) ?_; rotate_left 2; (· (simp only [List.getElem?_toArray, List.getElem?_cons_succ, List.getElem?_cons_zero]; first | done | rfl)); (· exact (fun _ _ _ h => h)); (· rfl); (· (intro w hSw; (try dsimp only at hSw); go_simp; (try with_reducible rfl))))
    (try simp only [Act.put, List.setIfInBounds_toArray, List.set_cons_zero, List.set_cons_succ])
    (refine wpAnyH_take (i := 5) (oi := ?_) (v := ?_) ?_ (by kernel_rfl) (by kernel_rfl) (by kernel_rfl) ?_ (Or.inl ⟨?_, ?_⟩) (by assumption) ?_; rotate_left 2; (· (simp only [List.getElem?_toArray, List.getElem?_cons_succ, List.getElem?_cons_zero]; first | done | rfl)); (· exact (fun _ _ _ h => h)); (· rfl); (· (intro w hSw; (try dsimp only at hSw); go_simp; (try with_reducible rfl))))
    (try simp only [Act.put, List.setIfInBounds_toArray, List.set_cons_zero, List.set_cons_succ])
    (refine wpAnyH_take (i := 6) (oi := ?_) (v := ?_) ?_ (by kernel_rfl) (by kernel_rfl) (by kernel_rfl) ?_ (Or.inl ⟨?_, ?_⟩) (by assumption) ?_; rotate_left 2; (· (simp only [List.getElem?_toArray, List.getElem?_cons_succ, List.getElem?_cons_zero]; first | done | rfl)); (· exact (fun _ _ _ h => h)); (· rfl); (· (intro w hSw; (try dsimp only at hSw); go_simp; (try with_reducible rfl))))
    (try simp only [Act.put, List.setIfInBounds_toArray, List.set_cons_zero, List.set_cons_succ])
    (refine wpAnyH_take (i := 7) (oi := ?_) (v := ?_) ?_ (by kernel_rfl) (by kernel_rfl) (by kernel_rfl) ?_ (Or.inl ⟨?_, ?_⟩) (by assumption) ?_; rotate_left 2; (· (simp only [List.getElem?_toArray, List.getElem?_cons_succ, List.getElem?_cons_zero]; first | done | rfl)); (· exact (fun _ _ _ h => h)); (· rfl); (· (intro w hSw; (try dsimp only at hSw); go_simp; (try with_reducible rfl))))
    (try simp only [Act.put, List.setIfInBounds_toArray, List.set_cons_zero, List.set_cons_succ])
    (refine wpAnyH_take (i := 8) (oi := ?_) (v := ?_) ?_ (by kernel_rfl) (by kernel_rfl) (by kernel_rfl) ?_ (Or.inl ⟨?_, ?_⟩) (by assumption) ?_; rotate_left 2; (· (simp only [List.getElem?_toArray, List.getElem?_cons_succ, List.getElem?_cons_zero]; first | done | rfl)); (· exact (fun _ _ _ h => h)); (· rfl); (· (intro w hSw; (try dsimp only at hSw); go_simp; (try with_reducible rfl))))
    (try simp only [Act.put, List.setIfInBounds_toArray, List.set_cons_zero, List.set_cons_succ])
    (refine wpAnyH_take (i := 9) (oi := ?_) (v := ?_) ?_ (by kernel_rfl) (by kernel_rfl) (by kernel_rfl) ?_ (Or.inl ⟨?_, ?_⟩) (by assumption) ?_; rotate_left 2; (· (simp only [List.getElem?_toArray, List.getElem?_cons_succ, List.getElem?_cons_zero]; first | done | rfl)); (· exact (fun _ _ _ h => h)); (· rfl); (· (intro w hSw; (try dsimp only at hSw); go_simp; (try with_reducible rfl))))
    (try simp only [Act.put, List.setIfInBounds_toArray, List.set_cons_zero, List.set_cons_succ])
    (refine wpAnyH_take (i := 10) (oi := ?_) (v := ?_) ?_ (by kernel_rfl) (by kernel_rfl) (by kernel_rfl) ?_ (Or.inl ⟨?_, ?_⟩) (by assumption) ?_; rotate_left 2; (· (simp only [List.getElem?_toArray, List.getElem?_cons_succ, List.getElem?_cons_zero]; first | done | rfl)); (· exact (fun _ _ _ h => h)); (· rfl); (· (intro w hSw; (try dsimp only at hSw); go_simp; (try with_reducible rfl))))
    (try simp only [Act.put, List.setIfInBounds_toArray, List.set_cons_zero, List.set_cons_succ])
    (refine wpAnyH_take (i := 11) (oi := ?_) (v := ?_) ?_ (by kernel_rfl) (by kernel_rfl) (by kernel_rfl) ?_ (Or.inl ⟨?_, ?_⟩) (by assumption) ?_; rotate_left 2; (· (simp only [List.getElem?_toArray, List.getElem?_cons_succ, List.getElem?_cons_zero]; first | done | rfl)); (· exact (fun _ _ _ h => h)); (· rfl); (· (intro w hSw; (try dsimp only at hSw); go_simp; (try with_reducible rfl))))
    (try simp only [Act.put, List.setIfInBounds_toArray, List.set_cons_zero, List.set_cons_succ])
    (refine wpAnyH_take (i := 12) (oi := ?_) (v := ?_) ?_ (by kernel_rfl) (by kernel_rfl) (by kernel_rfl) ?_ (Or.inl ⟨?_, ?_⟩) (by assumption) ?_; rotate_left 2; (· (simp only [List.getElem?_toArray, List.getElem?_cons_succ, List.getElem?_cons_zero]; first | done | rfl)); (· exact (fun _ _ _ h => h)); (· rfl); (· (intro w hSw; (try dsimp only at hSw); go_simp; (try with_reducible rfl))))
    (try simp only [Act.put, List.setIfInBounds_toArray, List.set_cons_zero, List.set_cons_succ])
    (refine wpAnyH_take (i := 13) (oi := ?_) (v := ?_) ?_ (by kernel_rfl) (by kernel_rfl) (by kernel_rfl) ?_ (Or.inl ⟨?_, ?_⟩) (by assumption) ?_; rotate_left 2; (· (simp only [List.getElem?_toArray, List.getElem?_cons_succ, List.getElem?_cons_zero]; first | done | rfl)); (· exact (fun _ _ _ h => h)); (· rfl); (· (intro w hSw; (try dsimp only at hSw); go_simp; (try with_reducible rfl))))
    (try simp only [Act.put, List.setIfInBounds_toArray, List.set_cons_zero, List.set_cons_succ])
    (refine wpAnyH_take (i := 14) (oi := ?_) (v := ?_) ?_ (by kernel_rfl) (by kernel_rfl) (by kernel_rfl) ?_ (Or.inl ⟨?_, ?_⟩) (by assumption) ?_; rotate_left 2; (· (simp only [List.getElem?_toArray, List.getElem?_cons_succ, List.getElem?_cons_zero]; first | done | rfl)); (· exact (fun _ _ _ h => h)); (· rfl); (· (intro w hSw; (try dsimp only at hSw); go_simp; (try with_reducible rfl))))
    (try simp only [Act.put, List.setIfInBounds_toArray, List.set_cons_zero, List.set_cons_succ])
    (refine wpAnyH_take (i := 15) (oi := ?_) (v := ?_) ?_ (by kernel_rfl) (by kernel_rfl) (by kernel_rfl) ?_ (Or.inl ⟨?_, ?_⟩) (by assumption) ?_; rotate_left 2; (· (simp only [List.getElem?_toArray, List.getElem?_cons_succ, List.getElem?_cons_zero]; first | done | rfl)); (· exact (fun _ _ _ h => h)); (· rfl); (· (intro w hSw; (try dsimp only at hSw); go_simp; (try with_reducible rfl))))
    (try simp only [Act.put, List.setIfInBounds_toArray, List.set_cons_zero, List.set_cons_succ])
    (refine wpAnyH_take (i := 16) (oi := ?_) (v := ?_) ?_ (by kernel_rfl) (by kernel_rfl) (by kernel_rfl) ?_ (Or.inl ⟨?_, ?_⟩) (by assumption) ?_; rotate_left 2; (· (simp only [List.getElem?_toArray, List.getElem?_cons_succ, List.getElem?_cons_zero]; first | done | rfl)); (· exact (fun _ _ _ h => h)); (· rfl); (· (intro w hSw; (try dsimp only at hSw); go_simp; (try with_reducible rfl))))
    (try simp only [Act.put, List.setIfInBounds_toArray, List.set_cons_zero, List.set_cons_succ])
    refine wpAnyH_ready (rs := [17]) (by kernel_rfl) (by simp) ?_
    refine AllReadyH.cons (o := ?_) ?_ (fun K hK => ?_) AllReadyH.nil
    rotate_left 1
    · (simp only [List.getElem?_toArray, List.getElem?_cons_succ, List.getElem?_cons_zero]; first | done | rfl)
    go_simp
    first | (refine hK.out _ _ ?_ (fun hq1 => ?_)) | ((go_at_call 18; refine (HGO2.out _ (ck_own (by assumption))).mono ?_; rintro e w9 ⟨rfl, hb9⟩); refine hK.out _ _ ?_ (fun hq1 => ?_)) | ((go_at_call 18; refine (HGO2.out _ (ck_own (by assumption))).mono ?_; rintro e w9 ⟨rfl, hb9⟩); go_wp2_with fail; refine hK.out _ _ ?_ (fun hq1 => ?_)) | fail
    · ((try dsimp only); (first | exact HSS.out | exact ck_below (bdrewN (Below.refl _ _) 1) HSS.out | assumption | exact ck_below (by assumption) (by assumption)))
    clear hK K
    (try simp only [Act.put, List.setIfInBounds_toArray, List.set_cons_zero, List.set_cons_succ])
    clear hq0
    (refine wpAnyH_take (i := 18) (oi := ?_) (v := ?_) ?_ (by kernel_rfl) (by kernel_rfl) (by kernel_rfl) ?_ (Or.inl ⟨?_, ?_⟩) (by assumption) ?_; rotate_left 2; (· (simp only [List.getElem?_toArray, List.getElem?_cons_succ, List.getElem?_cons_zero]; first | done | rfl)); (· exact (fun _ _ _ h => h)); (· rfl); (· (intro w hSw; (try dsimp only at hSw); go_simp; (try with_reducible rfl))))
    (try simp only [Act.put, List.setIfInBounds_toArray, List.set_cons_zero, List.set_cons_succ])
    (refine wpAnyH_take (i := 19) (oi := ?_) (v := ?_) ?_ (by kernel_rfl) (by kernel_rfl) (by kernel_rfl) ?_ (Or.inl ⟨?_, ?_⟩) (by assumption) ?_; rotate_left 2; (· (simp only [List.getElem?_toArray, List.getElem?_cons_succ, List.getElem?_cons_zero]; first | done | rfl)); (· exact (fun _ _ _ h => h)); (· rfl); (· (intro w hSw; (try dsimp only at hSw); go_simp; (try with_reducible rfl))))
    (try simp only [Act.put, List.setIfInBounds_toArray, List.set_cons_zero, List.set_cons_succ])
    (refine wpAnyH_take (i := 20) (oi := ?_) (v := ?_) ?_ (by kernel_rfl) (by kernel_rfl) (by kernel_rfl) ?_ (Or.inl ⟨?_, ?_⟩) (by assumption) ?_; rotate_left 2; (· (simp only [List.getElem?_toArray, List.getElem?_cons_succ, List.getElem?_cons_zero]; first | done | rfl)); (· exact (fun _ _ _ h => h)); (· rfl); (· (intro w hSw; (try dsimp only at hSw); go_simp; (try with_reducible rfl))))
    (try simp only [Act.put, List.setIfInBounds_toArray, List.set_cons_zero, List.set_cons_succ])
    refine wpAnyH_ready (rs := [21]) (by kernel_rfl) (by simp) ?_
    refine AllReadyH.cons (o := ?_) ?_ (fun K hK => ?_) AllReadyH.nil
    rotate_left 1
    · (simp only [List.getElem?_toArray, List.getElem?_cons_succ, List.getElem?_cons_zero]; first | done | rfl)
    go_simp
    first | (refine hK.out _ _ ?_ (fun hq2 => ?_)) | ((go_at_call 18; refine (HGO2.out _ (ck_own (by assumption))).mono ?_; rintro e w9 ⟨rfl, hb9⟩); refine hK.out _ _ ?_ (fun hq2 => ?_)) | ((go_at_call 18; refine (HGO2.out _ (ck_own (by assumption))).mono ?_; rintro e w9 ⟨rfl, hb9⟩); go_wp2_with fail; refine hK.out _ _ ?_ (fun hq2 => ?_)) | fail
    · ((try dsimp only); (first | exact HSS.out | exact ck_below (bdrewN (Below.refl _ _) 1) HSS.out | assumption | exact ck_below (by assumption) (by assumption)))
    clear hK K
    (try simp only [Act.put, List.setIfInBounds_toArray, List.set_cons_zero, List.set_cons_succ])
    clear hq1
    (refine wpAnyH_take (i := 22) (oi := ?_) (v := ?_) ?_ (by kernel_rfl) (by kernel_rfl) (by kernel_rfl) ?_ (Or.inl ⟨?_, ?_⟩) (by assumption) ?_; rotate_left 2; (· (simp only [List.getElem?_toArray, List.getElem?_cons_succ, List.getElem?_cons_zero]; first | done | rfl)); (· exact (fun _ _ _ h => h)); (· rfl); (· (intro w hSw; (try dsimp only at hSw); go_simp; (try with_reducible rfl))))
    (try simp only [Act.put, List.setIfInBounds_toArray, List.set_cons_zero, List.set_cons_succ])
    refine wpAnyH_done (by kernel_rfl) ?_ _
    go_wp2
    go_ret
    exact ⟨by rw [HRES.out, if_neg h40, HOL.out, bne, k4, bne, k0]; rfl, ck_own (by assumption)⟩
  · skip
    refine wp_region_held_drew (S := (fun w' => w'.cell? ⟨b, 0, none⟩ = some (.slice a0 l.length cap) ∧ w'.cell? ⟨w.heap.size, 7, none⟩ = some (.int .i64 (i : Int)) ∧ w'.cell? ⟨w2.heap.size, 0, none⟩ = some (.int .i64 ko) ∧ Below w.heap.size w w')) (by kernel_rfl) ?_ (fun hq0 => ?_)
    · ((try dsimp only); (first | exact HSS.out | exact ck_below (bdrewN (Below.refl _ _) 1) HSS.out | assumption | exact ck_below (by assumption) (by assumption)))
    (refine wpAnyH_take (i := 0) (oi := ?_) (v := ?_) ?_ (by kernel_rfl) (by kernel_rfl) (by kernel_rfl) ?_ (Or.inl ⟨?_, ?_⟩) (by assumption) ?_; rotate_left 2; (· (simp only [List.getElem?_toArray, List.getElem?_cons_zero]; first | done | rfl)); (· exact (fun _ _ _ h => h)); (· rfl); (· (intro w hSw; (try dsimp only at hSw); go_simp; (try with_reducible rfl))))
    (try simp only [Act.put, List.setIfInBounds_toArray, List.set_cons_zero, List.set_cons_succ])
    (refine wpAnyH_take (i := 1) (oi := ?_) (v := ?_) ?_ (by kernel_rfl) (by kernel_rfl) (by kernel_rfl) ?_ (Or.inl ⟨?_, ?_⟩) (by assumption) ?_; rotate_left 2; (· (simp only [List.getElem?_toArray, List.getElem?_cons_succ, List.getElem?_cons_zero]; first | done | rfl)); (· exact (fun _ _ _ h => h)); (· rfl); (· (intro w hSw; (try dsimp only at hSw); go_simp; (try with_reducible rfl))))
    (try simp only [Act.put, List.setIfInBounds_toArray, List.set_cons_zero, List.set_cons_succ])
    (refine wpAnyH_take (i := 2) (oi := ?_) (v := ?_) ?_ (by kernel_rfl) (by kernel_rfl) (by kernel_rfl) ?_ (Or.inl ⟨?_, ?_⟩) (by assumption) ?_; rotate_left 2; (· (simp only [List.getElem?_toArray, List.getElem?_cons_succ, List.getElem?_cons_zero]; first | done | rfl)); (· exact (fun _ _ _ h => h)); (· rfl); (· (intro w hSw; (try dsimp only at hSw); go_simp; (try with_reducible rfl))))
    (try simp only [Act.put, List.setIfInBounds_toArray, List.set_cons_zero, List.set_cons_succ])
    (refine wpAnyH_take (i := 3) (oi := ?_) (v := ?_) ?_ (by kernel_rfl) (by kernel_rfl) (by kernel_rfl) ?_ (Or.inl ⟨?_, ?_⟩) (by assumption) ?_; rotate_left 2; (· (simp only [List.getElem?_toArray, List.getElem?_cons_succ, List.getElem?_cons_zero]; first | done | rfl)); (· exact (fun _ _ _ h => h)); (· rfl); (· (intro w hSw; (try dsimp only at hSw); go_simp; (try with_reducible rfl))))
    (try simp only [Act.put, List.setIfInBounds_toArray, List.set_cons_zero, List.set_cons_succ])
    (refine wpAnyH_take (i := 4) (oi := ?_) (v := ?_) ?_ (by kernel_rfl) (by kernel_rfl) (by kernel_rfl) ?_ (Or.inl ⟨?_, ?_⟩) (by assumption) ?_; rotate_left 2; (· (simp only [List.getElem?_toArray, List.getElem?_cons_succ, List.getElem?_cons_zero]; first | done | rfl)); (· exact (fun _ _ _ h => h)); (· rfl); (· (intro w hSw; (try dsimp only at hSw); go_simp; (try with_reducible rfl))))
    (try simp only [Act.put, List.setIfInBounds_toArray, List.set_cons_zero, List.set_cons_succ])
    (refine wpAnyH_take (i := 5) (oi := ?_) (v := ?_) ?_ (by kernel_rfl) (by kernel_rfl) (by kernel_rfl) ?_ (Or.inl ⟨?_, ?_⟩) (by assumption) ?_; rotate_left 2; (· (simp only [List.getElem?_toArray, List.getElem?_cons_succ, List.getElem?_cons_zero]; first | done | rfl)); (· exact (fun _ _ _ h => h)); (· rfl); (· (intro w hSw; (try dsimp only at hSw); go_simp; (try with_reducible rfl))))
    (try simp only [Act.put, List.setIfInBounds_toArray, List.set_cons_zero, List.set_cons_succ])
    (refine wpAnyH_take (i := 6) (oi := ?_) (v := ?_) ?_ (by kernel_rfl) (by kernel_rfl) (by kernel_rfl) ?_ (Or.inl ⟨?_, ?_⟩) (by assumption) ?_; rotate_left 2; (· (simp only [List.getElem?_toArray, List.getElem?_cons_succ, List.getElem?_cons_zero]; first | done | rfl)); (· exact (fun _ _ _ h => h)); (· rfl); (· (intro w hSw; (try dsimp only at hSw); go_simp; (try with_reducible rfl))))
    (try simp only [Act.put, List.setIfInBounds_toArray, List.set_cons_zero, List.set_cons_succ])
    (refine wpAnyH_take (i := 7) (oi := ?_) (v := ?_) ?_ (by kernel_rfl) (by kernel_rfl) (by kernel_rfl) ?_ (Or.inl ⟨?_, ?_⟩) (by assumption) ?_; rotate_left 2; (· (simp only [List.getElem?_toArray, List.getElem?_cons_succ, List.getElem?_cons_zero]; first | done | rfl)); (· exact (fun _ _ _ h => h)); (· rfl); (· (intro w hSw; (try dsimp only at hSw); go_simp; (try with_reducible rfl))))
    (try simp only [Act.put, List.setIfInBounds_toArray, List.set_cons_zero, List.set_cons_succ])
    (refine wpAnyH_take (i := 8) (oi := ?_) (v := ?_) ?_ (by kernel_rfl) (by kernel_rfl) (by kernel_rfl) ?_ (Or.inl ⟨?_, ?_⟩) (by assumption) ?_; rotate_left 2; (· (simp only [List.getElem?_toArray, List.getElem?_cons_succ, List.getElem?_cons_zero]; first | done | rfl)); (· exact (fun _ _ _ h => h)); (· rfl); (· (intro w hSw; (try dsimp only at hSw); go_simp; (try with_reducible rfl))))
    (try simp only [Act.put, List.setIfInBounds_toArray, List.set_cons_zero, List.set_cons_succ])
    (refine wpAnyH_take (i := 9) (oi := ?_) (v := ?_) ?_ (by kernel_rfl) (by kernel_rfl) (by kernel_rfl) ?_ (Or.inl ⟨?_, ?_⟩) (by assumption) ?_; rotate_left 2; (· (simp only [List.getElem?_toArray, List.getElem?_cons_succ, List.getElem?_cons_zero]; first | done | rfl)); (· exact (fun _ _ _ h => h)); (· rfl); (· (intro w hSw; (try dsimp only at hSw); go_simp; (try with_reducible rfl))))
    (try simp only [Act.put, List.setIfInBounds_toArray, List.set_cons_zero, List.set_cons_succ])
    (refine wpAnyH_take (i := 10) (oi := ?_) (v := ?_) ?_ (by kernel_rfl) (by kernel_rfl) (by kernel_rfl) ?_ (Or.inl ⟨?_, ?_⟩) (by assumption) ?_; rotate_left 2; (· (simp only [List.getElem?_toArray, List.getElem?_cons_succ, List.getElem?_cons_zero]; first | done | rfl)); (· exact (fun _ _ _ h => h)); (· rfl); (· (intro w hSw; (try dsimp only at hSw); go_simp; (try with_reducible rfl))))
    (try simp only [Act.put, List.setIfInBounds_toArray, List.set_cons_zero, List.set_cons_succ])
    (refine wpAnyH_take (i := 11) (oi := ?_) (v := ?_) ?_ (by kernel_rfl) (by kernel_rfl) (by kernel_rfl) ?_ (Or.inl ⟨?_, ?_⟩) (by assumption) ?_; rotate_left 2; (· (simp only [List.getElem?_toArray, List.getElem?_cons_succ, List.getElem?_cons_zero]; first | done | rfl)); (· exact (fun _ _ _ h => h)); (· rfl); (· (intro w hSw; (try dsimp only at hSw); go_simp; (try with_reducible rfl))))
    (try simp only [Act.put, List.setIfInBounds_toArray, List.set_cons_zero, List.set_cons_succ])
    (refine wpAnyH_take (i := 12) (oi := ?_) (v := ?_) ?_ (by kernel_rfl) (by kernel_rfl) (by kernel_rfl) ?_ (Or.inl ⟨?_, ?_⟩) (by assumption) ?_; rotate_left 2; (· (simp only [List.getElem?_toArray, List.getElem?_cons_succ, List.getElem?_cons_zero]; first | done | rfl)); (· exact (fun _ _ _ h => h)); (· rfl); (· (intro w hSw; (try dsimp only at hSw); go_simp; (try with_reducible rfl))))
    (try simp only [Act.put, List.setIfInBounds_toArray, List.set_cons_zero, List.set_cons_succ])
    (refine wpAnyH_take (i := 13) (oi := ?_) (v := ?_) ?_ (by kernel_rfl) (by kernel_rfl) (by kernel_rfl) ?_ (Or.inl ⟨?_, ?_⟩) (by assumption) ?_; rotate_left 2; (· (simp only [List.getElem?_toArray, List.getElem?_cons_succ, List.getElem?_cons_zero]; first | done | rfl)); (· exact (fun _ _ _ h => h)); (· rfl); (· (intro w hSw; (try dsimp only at hSw); go_simp; (try with_reducible rfl))))
    (try simp only [Act.put, List.setIfInBounds_toArray, List.set_cons_zero, List.set_cons_succ])
    (refine wpAnyH_take (i := 14) (oi := ?_) (v := ?_) ?_ (by kernel_rfl) (by kernel_rfl) (by kernel_rfl) ?_ (Or.inl ⟨?_, ?_⟩) (by assumption) ?_; rotate_left 2; (· (simp only [List.getElem?_toArray, List.getElem?_cons_succ, List.getElem?_cons_zero]; first | done | rfl)); (· exact (fun _ _ _ h => h)); (· rfl); (· (intro w hSw; (try dsimp only at hSw); go_simp; (try with_reducible rfl))))
    (try simp only [Act.put, List.setIfInBounds_toArray, List.set_cons_zero, List.set_cons_succ])
    (refine wpAnyH_take (i := 15) (oi := ?_) (v := ?_) ?_ (by kernel_rfl) (by kernel_rfl) (by kernel_rfl) ?_ (Or.inl ⟨?_, ?_⟩) (by assumption) ?_; rotate_left 2; (· (simp only [List.getElem?_toArray, List.getElem?_cons_succ, List.getElem?_cons_zero]; first | done | rfl)); (· exact (fun _ _ _ h => h)); (· rfl); (· (intro w hSw; (try dsimp only at hSw); go_simp; (try with_reducible rfl))))
    (try simp only [Act.put, List.setIfInBounds_toArray, List.set_cons_zero, List.set_cons_succ])
    (refine wpAnyH_take (i := 16) (oi := ?_) (v := ?_) ?_ (by kernel_rfl) (by kernel_rfl) (by kernel_rfl) ?_ (Or.inl ⟨?_, ?_⟩) (by assumption) ?_; rotate_left 2; (· (simp only [List.getElem?_toArray, List.getElem?_cons_succ, List.getElem?_cons_zero]; first | done | rfl)); (· exact (fun _ _ _ h => h)); (· rfl); (· (intro w hSw; (try dsimp only at hSw); go_simp; (try with_reducible rfl))))
    (try simp only [Act.put, List.setIfInBounds_toArray, List.set_cons_zero, List.set_cons_succ])
    refine wpAnyH_ready (rs := [17]) (by kernel_rfl) (by simp) ?_
    refine AllReadyH.cons (o := ?_) ?_ (fun K hK => ?_) AllReadyH.nil
    rotate_left 1
    · (simp only [List.getElem?_toArray, List.getElem?_cons_succ, List.getElem?_cons_zero]; first | done | rfl)
    go_simp
    first | (refine hK.out _ _ ?_ (fun hq1 => ?_)) | ((go_at_call 18; refine (HGO2.out _ (ck_own (by assumption))).mono ?_; rintro e w9 ⟨rfl, hb9⟩); refine hK.out _ _ ?_ (fun hq1 => ?_)) | ((go_at_call 18; refine (HGO2.out _ (ck_own (by assumption))).mono ?_; rintro e w9 ⟨rfl, hb9⟩); go_wp2_with fail; refine hK.out _ _ ?_ (fun hq1 => ?_)) | fail
    · ((try dsimp only); (first | exact HSS.out | exact ck_below (bdrewN (Below.refl _ _) 1) HSS.out | assumption | exact ck_below (by assumption) (by assumption)))
    clear hK K
    (try simp only [Act.put, List.setIfInBounds_toArray, List.set_cons_zero, List.set_cons_succ])
    clear hq0
    (refine wpAnyH_take (i := 18) (oi := ?_) (v := ?_) ?_ (by kernel_rfl) (by kernel_rfl) (by kernel_rfl) ?_ (Or.inl ⟨?_, ?_⟩) (by assumption) ?_; rotate_left 2; (· (simp only [List.getElem?_toArray, List.getElem?_cons_succ, List.getElem?_cons_zero]; first | done | rfl)); (· exact (fun _ _ _ h => h)); (· rfl); (· (intro w hSw; (try dsimp only at hSw); go_simp; (try with_reducible rfl))))
    (try simp only [Act.put, List.setIfInBounds_toArray, List.set_cons_zero, List.set_cons_succ])
    (refine wpAnyH_take (i := 19) (oi := ?_) (v := ?_) ?_ (by kernel_rfl) (by kernel_rfl) (by kernel_rfl) ?_ (Or.inl ⟨?_, ?_⟩) (by assumption) ?_; rotate_left 2; (· (simp only [List.getElem?_toArray, List.getElem?_cons_succ, List.getElem?_cons_zero]; first | done | rfl)); (· exact (fun _ _ _ h => h)); (· rfl); (· (intro w hSw; (try dsimp only at hSw); go_simp; (try with_reducible rfl))))
    (try simp only [Act.put, List.setIfInBounds_toArray, List.set_cons_zero, List.set_cons_succ])
    (refine wpAnyH_take (i := 20) (oi := ?_) (v := ?_) ?_ (by kernel_rfl) (by kernel_rfl) (by kernel_rfl) ?_ (Or.inl ⟨?_, ?_⟩) (by assumption) ?_; rotate_left 2; (· (simp only [List.getElem?_toArray, List.getElem?_cons_succ, List.getElem?_cons_zero]; first | done | rfl)); (· exact (fun _ _ _ h => h)); (· rfl); (· (intro w hSw; (try dsimp only at hSw); go_simp; (try with_reducible rfl))))
    (try simp only [Act.put, List.setIfInBounds_toArray, List.set_cons_zero, List.set_cons_succ])
    refine wpAnyH_ready (rs := [21]) (by kernel_rfl) (by simp) ?_
    refine AllReadyH.cons (o := ?_) ?_ (fun K hK => ?_) AllReadyH.nil
    rotate_left 1
    · (simp only [List.getElem?_toArray, List.getElem?_cons_succ, List.getElem?_cons_zero]; first | done | rfl)
    go_simp
    first | (refine hK.out _ _ ?_ (fun hq2 => ?_)) | ((go_at_call 18; refine (HGO2.out _ (ck_own (by assumption))).mono ?_; rintro e w9 ⟨rfl, hb9⟩); refine hK.out _ _ ?_ (fun hq2 => ?_)) | ((go_at_call 18; refine (HGO2.out _ (ck_own (by assumption))).mono ?_; rintro e w9 ⟨rfl, hb9⟩); go_wp2_with fail; refine hK.out _ _ ?_ (fun hq2 => ?_)) | fail
    · ((try dsimp only); (first | exact HSS.out | exact ck_below (bdrewN (Below.refl _ _) 1) HSS.out | assumption | exact ck_below (by assumption) (by assumption)))
    clear hK K
    (try simp only [Act.put, List.setIfInBounds_toArray, List.set_cons_zero, List.set_cons_succ])
    clear hq1
    (refine wpAnyH_take (i := 22) (oi := ?_) (v := ?_) ?_ (by kernel_rfl) (by kernel_rfl) (by kernel_rfl) ?_ (Or.inl ⟨?_, ?_⟩) (by assumption) ?_; rotate_left 2; (· (simp only [List.getElem?_toArray, List.getElem?_cons_succ, List.getElem?_cons_zero]; first | done | rfl)); (· exact (fun _ _ _ h => h)); (· rfl); (· (intro w hSw; (try dsimp only at hSw); go_simp; (try with_reducible rfl))))
    (try simp only [Act.put, List.setIfInBounds_toArray, List.set_cons_zero, List.set_cons_succ])
    refine wpAnyH_done (by kernel_rfl) ?_ _
    go_wp2
    go_ret
    exact ⟨by rw [HRES.out, if_neg h40, HOL.out, bne, k4, bne, k0]; rfl, ck_own (by assumption)⟩
end Go.Proofs.YtfkedobofamkiaaGreatDoor.Pol
end

section
/- THE WALK OF (*policy.Log).check at rules that are no revocations; check_any. -/
namespace Go.Proofs.YtfkedobofamkiaaGreatDoor.Pol
open Go.RowKit Flt Go.Proofs.YtfkedobofamkiaaGreatDoor.Val
attribute [local go_sem] run_store_flt
/-- what stays: the log's cell, the rule's box -/
def CB (w : World) (b : Nat) (u : Value) (kd tn : Int) (who : List UInt8) (W : World) : Prop :=
  W.cell? ⟨b, 0, none⟩ = some u ∧ W.cell? ⟨w.heap.size, 0, none⟩ = some (.int .i64 kd) ∧ W.cell? ⟨w.heap.size, 1, none⟩ = some (.int .i64 tn) ∧ W.cell? ⟨w.heap.size, 2, none⟩ = some (.string ⟨who.toArray⟩) ∧ Below w.heap.size w W
theorem cb_below {w W W2 : World} {b : Nat} {u : Value} {kd tn : Int} {who : List UInt8} (h : CB w b u kd tn who W) (hb : Below W.heap.size W W2) : CB w b u kd tn who W2 := by
  have e : ∀ {q : Addr} {v : Value}, W.cell? q = some v → W2.cell? q = some v := fun h => (hb.cell (World.block_lt_of_cell? _ _ h)).trans h
  exact ⟨e h.1, e h.2.1, e h.2.2.1, e h.2.2.2.1, btrans h.2.2.2.2 hb⟩
theorem cb_start {w w1 : World} {b : Nat} {u v3 v4 v5 v6 v7 : Value} {kd tn : Int} {who : List UInt8} {T : TypeId} (h0 : w.cell? ⟨b, 0, none⟩ = some u)
    (hb1 : Below (w.alloc (.cells #[.int .i64 kd, .int .i64 tn, .string ⟨who.toArray⟩, v3, v4, v5, v6, v7] T)).heap.size (w.alloc (.cells #[.int .i64 kd, .int .i64 tn, .string ⟨who.toArray⟩, v3, v4, v5, v6, v7] T)) w1) : CB w b u kd tn who w1 := by
  have z : w.heap.size < (w.alloc (.cells #[.int .i64 kd, .int .i64 tn, .string ⟨who.toArray⟩, v3, v4, v5, v6, v7] T)).heap.size := by simp
  have hb := btrans (balloc w _) hb1
  have c : ∀ o, w1.cell? ⟨w.heap.size, o, none⟩ = #[.int .i64 kd, .int .i64 tn, .string ⟨who.toArray⟩, v3, v4, v5, v6, v7][o]? := fun o => (hb1.cell (p := ⟨w.heap.size, o, none⟩) z).trans (World.cell?_alloc_at _ _ _ _ rfl)
  exact ⟨(hb.cell (World.block_lt_of_cell? _ _ h0)).trans h0, c 0, c 1, c 2, hb⟩
set_option maxRecDepth 20000 in
set_option maxHeartbeats 4000000 in
theorem chk_rest (b : Nat) (a0 : Option Addr) (cap : Nat) (l : List R) (r : R) (cs : List C) (w : World) (hl : Log w b a0 cap l) (hlm : l.length ≤ 1000000) (hr : ROk w r cs) (h4 : r.k.kind ≠ 4) :
    Calls Tryz.prog 14 #[.pointer (some ⟨b, 0, none⟩), rv r] w fun e w' => e = .returned (.int .i64 (checkE (ks l) (aclB r cs) r.k)) ∧ Below w.heap.size w w' := by
  have hb0 := hl.lt
  have h0 := hl.1
  have hk (W : World) (h : Below w.heap.size w W) := (hr.below h).right
  have hho (W : World) (h : Below w.heap.size w W) := home_any a0 cap l r.k.tenant r.k.who W (hl.below h).2 hlm
  have hpe (W : World) (h : Below w.heap.size w W) := people_any b a0 cap l W (hl.below h) hlm
  have e4 : (r.k.kind == 4) = false := by simpa using h4
  have hres : checkE (ks l) (aclB r cs) r.k = (if !aclB r cs then 1 else if l.length = 40 then 6 else if r.k.kind == 0 && homeB (ks l) r.k.tenant r.k.who then 4 else if r.k.kind == 0 && peopleN (ks l) == 12 then 6 else if r.k.kind != 0 && !homeB (ks l) r.k.tenant r.k.who then 3 else 0) := by
    unfold checkE
    rw [ks_len, e4]
    rfl
  have hpn : (((peopleN (ks l) : Nat) : Int) == 12) = (peopleN (ks l) == 12) := by rw [Bool.eq_iff_iff]; simp; omega
  generalize checkE (ks l) (aclB r cs) r.k = RES at *
  generalize aclB r cs = ok at *
  generalize homeB (ks l) r.k.tenant r.k.who = H at *
  generalize peopleN (ks l) = n at *
  have HK := Lib.hid hk; have HHO := Lib.hid hho; have HPE := Lib.hid hpe; have HRES := Lib.hid hres; have HPN := Lib.hid hpn
  clear hk hho hpe hres hl hr hpn hlm
  obtain ⟨⟨kd, tn, who, pl⟩, br, sc, c0, cn, cc, nm⟩ := r
  dsimp only at h4 e4 HRES
  clear h4
  cases ok
  · go_enter Tryz.func14, Tryz.ntmps14
    go_wp2_with (first | (go_at_call 22; refine (HK.out _ (by repeat (first | assumption | (with_reducible exact Below.refl _ _) | exact balloc _ _ | exact balloc2 _ _ _ | refine btrans ?_ (by assumption) | refine btrans ?_ (balloc _ _)))).mono ?_; rintro e w1 ⟨rfl, hb1⟩; obtain ⟨hc1, hf1⟩ := bcell hb1) | fail)
    go_ret
    exact ⟨by rw [HRES.out]; rfl, by repeat (first | assumption | (with_reducible exact Below.refl _ _) | exact balloc _ _ | exact balloc2 _ _ _ | refine btrans ?_ (by assumption) | refine btrans ?_ (balloc _ _))⟩
  by_cases h40 : l.length = 40
  · have i40 : ((l.length : Int) == 40) = true := by rw [beq_iff_eq]; omega
    go_enter Tryz.func14, Tryz.ntmps14
    go_wp2_with (first | (go_at_call 22; refine (HK.out _ (by repeat (first | assumption | (with_reducible exact Below.refl _ _) | exact balloc _ _ | exact balloc2 _ _ _ | refine btrans ?_ (by assumption) | refine btrans ?_ (balloc _ _)))).mono ?_; rintro e w1 ⟨rfl, hb1⟩; obtain ⟨hc1, hf1⟩ := bcell hb1) | fail)
    go_ret
    exact ⟨by rw [HRES.out, h40]; rfl, by repeat (first | assumption | (with_reducible exact Below.refl _ _) | exact balloc _ _ | exact balloc2 _ _ _ | refine btrans ?_ (by assumption) | refine btrans ?_ (balloc _ _))⟩
  have i40 : ((l.length : Int) == 40) = false := by rw [beq_eq_false_iff_ne]; omega
  go_enter Tryz.func14, Tryz.ntmps14
  go_wp2_with (first | (go_at_call 22; refine (HK.out _ (by repeat (first | assumption | (with_reducible exact Below.refl _ _) | exact balloc _ _ | exact balloc2 _ _ _ | refine btrans ?_ (by assumption) | refine btrans ?_ (balloc _ _)))).mono ?_; rintro e w1 ⟨rfl, hb1⟩; obtain ⟨hc1, hf1⟩ := bcell hb1) | fail)
  have HSS := Lib.hid (cb_start h0 hb1)
  clear hb1 hc1 hf1 h0
  go_region_held3 (fun w' => w'.cell? ⟨b, 0, none⟩ = some (.slice a0 l.length cap) ∧ w'.cell? ⟨w.heap.size, 0, none⟩ = some (.int .i64 kd) ∧ w'.cell? ⟨w.heap.size, 1, none⟩ = some (.int .i64 tn) ∧ w'.cell? ⟨w.heap.size, 2, none⟩ = some (.string ⟨who.toArray⟩) ∧ Below w.heap.size w w')
    (first | exact HSS.out | exact cb_below HSS.out (bdrewN (Below.refl _ _) 1) | assumption | exact cb_below (by assumption) (by assumption))
    (first | (go_at_call 19; refine (HHO.out _ (And.right (And.right (And.right (And.right (by assumption)))))).mono ?_; rintro e w9 ⟨⟨br9, rfl⟩, hb9⟩))
  go_goals
  rename_i hheld
  obtain ⟨f0, f1, f2, f3, hB⟩ := hheld
  have z9 := World.block_lt_of_cell? _ _ f1
  cases k0 : (kd == 0)
  · have k0' : (kd != 0) = true := by rw [bne, k0]; rfl
    cases H
    · go_wp2_with (first | (go_at_call 23; refine (HPE.out _ (by repeat (first | assumption | (with_reducible exact Below.refl _ _) | exact balloc _ _ | exact balloc2 _ _ _ | refine btrans ?_ (by assumption) | refine btrans ?_ (balloc _ _)))).mono ?_; rintro e w8 ⟨rfl, hb8⟩; obtain ⟨hc8, hf8⟩ := bcell hb8) | fail)
      go_ret
      exact ⟨by rw [HRES.out, if_neg h40, k0, k0']; rfl, by repeat (first | assumption | (with_reducible exact Below.refl _ _) | exact balloc _ _ | exact balloc2 _ _ _ | refine btrans ?_ (by assumption) | refine btrans ?_ (balloc _ _))⟩
    · go_wp2_with (first | (go_at_call 23; refine (HPE.out _ (by repeat (first | assumption | (with_reducible exact Below.refl _ _) | exact balloc _ _ | exact balloc2 _ _ _ | refine btrans ?_ (by assumption) | refine btrans ?_ (balloc _ _)))).mono ?_; rintro e w8 ⟨rfl, hb8⟩; obtain ⟨hc8, hf8⟩ := bcell hb8) | fail)
      go_ret
      exact ⟨by rw [HRES.out, if_neg h40, k0, k0']; rfl, by repeat (first | assumption | (with_reducible exact Below.refl _ _) | exact balloc _ _ | exact balloc2 _ _ _ | refine btrans ?_ (by assumption) | refine btrans ?_ (balloc _ _))⟩
  · have k0' : (kd != 0) = false := by rw [bne, k0]; rfl
    cases H
    · cases hn : (n == 12)
      · have hn' := HPN.out.trans hn
        go_wp2_with (first | (go_at_call 23; refine (HPE.out _ (by repeat (first | assumption | (with_reducible exact Below.refl _ _) | exact balloc _ _ | exact balloc2 _ _ _ | refine btrans ?_ (by assumption) | refine btrans ?_ (balloc _ _)))).mono ?_; rintro e w8 ⟨rfl, hb8⟩; obtain ⟨hc8, hf8⟩ := bcell hb8) | fail)
        go_ret
        exact ⟨by rw [HRES.out, if_neg h40, k0, k0', hn]; rfl, by repeat (first | assumption | (with_reducible exact Below.refl _ _) | exact balloc _ _ | exact balloc2 _ _ _ | refine btrans ?_ (by assumption) | refine btrans ?_ (balloc _ _))⟩
      · have hn' := HPN.out.trans hn
        go_wp2_with (first | (go_at_call 23; refine (HPE.out _ (by repeat (first | assumption | (with_reducible exact Below.refl _ _) | exact balloc _ _ | exact balloc2 _ _ _ | refine btrans ?_ (by assumption) | refine btrans ?_ (balloc _ _)))).mono ?_; rintro e w8 ⟨rfl, hb8⟩; obtain ⟨hc8, hf8⟩ := bcell hb8) | fail)
        go_ret
        exact ⟨by rw [HRES.out, if_neg h40, k0, hn]; rfl, by repeat (first | assumption | (with_reducible exact Below.refl _ _) | exact balloc _ _ | exact balloc2 _ _ _ | refine btrans ?_ (by assumption) | refine btrans ?_ (balloc _ _))⟩
    · go_wp2_with (first | (go_at_call 23; refine (HPE.out _ (by repeat (first | assumption | (with_reducible exact Below.refl _ _) | exact balloc _ _ | exact balloc2 _ _ _ | refine btrans ?_ (by assumption) | refine btrans ?_ (balloc _ _)))).mono ?_; rintro e w8 ⟨rfl, hb8⟩; obtain ⟨hc8, hf8⟩ := bcell hb8) | fail)
      go_ret
      exact ⟨by rw [HRES.out, if_neg h40, k0]; rfl, by repeat (first | assumption | (with_reducible exact Below.refl _ _) | exact balloc _ _ | exact balloc2 _ _ _ | refine btrans ?_ (by assumption) | refine btrans ?_ (balloc _ _))⟩
/-- WHAT check ANSWERS -/
theorem check_any (b : Nat) (a0 : Option Addr) (cap : Nat) (l : List R) (r : R) (cs : List C) (w : World) (hl : Log w b a0 cap l) (hlm : l.length ≤ 1000000) (hcap : l.length ≤ cap) (hr : ROk w r cs) :
    Calls Tryz.prog 14 #[.pointer (some ⟨b, 0, none⟩), rv r] w fun e w' => e = .returned (.int .i64 (checkE (ks l) (aclB r cs) r.k)) ∧ Below w.heap.size w w' := by
  by_cases h4 : r.k.kind = 4
  · exact chk_revoke b a0 cap l r cs w hl hlm hcap hr h4
  · exact chk_rest b a0 cap l r cs w hl hlm hr h4
end Go.Proofs.YtfkedobofamkiaaGreatDoor.Pol
end

section
/- THE WALK OF filter.Norm's comparison: by the conditions' texts. -/
namespace Go.Proofs.YtfkedobofamkiaaGreatDoor.Val
open Go.RowKit Flt
/-- a condition that is not long, whose numbers are words -/
def CSmall (c : C) : Prop := c.name.length ≤ 1000 ∧ c.val.text.length ≤ 1000 ∧ c.val.num < 18446744073709551616 ∧ -9223372036854775808 ≤ c.val.int ∧ c.val.int ≤ 9223372036854775807
/-- how two conditions stand -/
def cmpC (a b : C) : Int := Lib.compareBytes (cT a) (cT b)
theorem cp_below {a b : C} {w w1 w2 : World} (hb : Below w1.heap.size w1 w2) (h : w1.cell? ⟨w.heap.size, 0, none⟩ = some (.string ⟨a.name.toArray⟩) ∧ w1.cell? ⟨w.heap.size, 1, none⟩ = some (.int .i64 a.op) ∧ w1.cell? ⟨w.heap.size, 2, none⟩ = some (.int .i64 a.val.kind) ∧ w1.cell? ⟨w.heap.size, 3, none⟩ = some (.int .i64 a.val.int) ∧ w1.cell? ⟨w.heap.size, 4, none⟩ = some (.float .f64 a.val.num) ∧ w1.cell? ⟨w.heap.size, 5, none⟩ = some (.string ⟨a.val.text.toArray⟩) ∧ w1.cell? ⟨w.heap.size, 6, none⟩ = some (.bool a.val.yes) ∧ w1.cell? ⟨w.heap.size + 1, 0, none⟩ = some (.string ⟨b.name.toArray⟩) ∧ w1.cell? ⟨w.heap.size + 1, 1, none⟩ = some (.int .i64 b.op) ∧ w1.cell? ⟨w.heap.size + 1, 2, none⟩ = some (.int .i64 b.val.kind) ∧ w1.cell? ⟨w.heap.size + 1, 3, none⟩ = some (.int .i64 b.val.int) ∧ w1.cell? ⟨w.heap.size + 1, 4, none⟩ = some (.float .f64 b.val.num) ∧ w1.cell? ⟨w.heap.size + 1, 5, none⟩ = some (.string ⟨b.val.text.toArray⟩) ∧ w1.cell? ⟨w.heap.size + 1, 6, none⟩ = some (.bool b.val.yes) ∧ Below w.heap.size w w1 ∧ w.heap.size + 1 < w1.heap.size) :
    w2.cell? ⟨w.heap.size, 0, none⟩ = some (.string ⟨a.name.toArray⟩) ∧ w2.cell? ⟨w.heap.size, 1, none⟩ = some (.int .i64 a.op) ∧ w2.cell? ⟨w.heap.size, 2, none⟩ = some (.int .i64 a.val.kind) ∧ w2.cell? ⟨w.heap.size, 3, none⟩ = some (.int .i64 a.val.int) ∧ w2.cell? ⟨w.heap.size, 4, none⟩ = some (.float .f64 a.val.num) ∧ w2.cell? ⟨w.heap.size, 5, none⟩ = some (.string ⟨a.val.text.toArray⟩) ∧ w2.cell? ⟨w.heap.size, 6, none⟩ = some (.bool a.val.yes) ∧ w2.cell? ⟨w.heap.size + 1, 0, none⟩ = some (.string ⟨b.name.toArray⟩) ∧ w2.cell? ⟨w.heap.size + 1, 1, none⟩ = some (.int .i64 b.op) ∧ w2.cell? ⟨w.heap.size + 1, 2, none⟩ = some (.int .i64 b.val.kind) ∧ w2.cell? ⟨w.heap.size + 1, 3, none⟩ = some (.int .i64 b.val.int) ∧ w2.cell? ⟨w.heap.size + 1, 4, none⟩ = some (.float .f64 b.val.num) ∧ w2.cell? ⟨w.heap.size + 1, 5, none⟩ = some (.string ⟨b.val.text.toArray⟩) ∧ w2.cell? ⟨w.heap.size + 1, 6, none⟩ = some (.bool b.val.yes) ∧ Below w.heap.size w w2 ∧ w.heap.size + 1 < w2.heap.size := by
  obtain ⟨h0, h1, h2, h3, h4, h5, h6, h7, h8, h9, h10, h11, h12, h13, hB, hl⟩ := h
  have c : ∀ b o, b < w1.heap.size → w2.cell? ⟨b, o, none⟩ = w1.cell? ⟨b, o, none⟩ := fun b o h => hb.cell (p := ⟨b, o, none⟩) h
  exact ⟨(c _ _ (by omega)).trans h0, (c _ _ (by omega)).trans h1, (c _ _ (by omega)).trans h2, (c _ _ (by omega)).trans h3, (c _ _ (by omega)).trans h4, (c _ _ (by omega)).trans h5, (c _ _ (by omega)).trans h6, (c _ _ (by omega)).trans h7, (c _ _ (by omega)).trans h8, (c _ _ (by omega)).trans h9, (c _ _ (by omega)).trans h10, (c _ _ (by omega)).trans h11, (c _ _ (by omega)).trans h12, (c _ _ (by omega)).trans h13, btrans hB hb, Nat.lt_of_lt_of_le hl hb.size⟩
theorem cp_start {a b : C} {w : World} {T : TypeId} : ((w.alloc (.cells #[(.string ⟨a.name.toArray⟩), (.int .i64 a.op), (.int .i64 a.val.kind), (.int .i64 a.val.int), (.float .f64 a.val.num), (.string ⟨a.val.text.toArray⟩), (.bool a.val.yes)] T)).alloc (.cells #[(.string ⟨b.name.toArray⟩), (.int .i64 b.op), (.int .i64 b.val.kind), (.int .i64 b.val.int), (.float .f64 b.val.num), (.string ⟨b.val.text.toArray⟩), (.bool b.val.yes)] T)).drew.cell? ⟨w.heap.size, 0, none⟩ = some (.string ⟨a.name.toArray⟩) ∧ ((w.alloc (.cells #[(.string ⟨a.name.toArray⟩), (.int .i64 a.op), (.int .i64 a.val.kind), (.int .i64 a.val.int), (.float .f64 a.val.num), (.string ⟨a.val.text.toArray⟩), (.bool a.val.yes)] T)).alloc (.cells #[(.string ⟨b.name.toArray⟩), (.int .i64 b.op), (.int .i64 b.val.kind), (.int .i64 b.val.int), (.float .f64 b.val.num), (.string ⟨b.val.text.toArray⟩), (.bool b.val.yes)] T)).drew.cell? ⟨w.heap.size, 1, none⟩ = some (.int .i64 a.op) ∧ ((w.alloc (.cells #[(.string ⟨a.name.toArray⟩), (.int .i64 a.op), (.int .i64 a.val.kind), (.int .i64 a.val.int), (.float .f64 a.val.num), (.string ⟨a.val.text.toArray⟩), (.bool a.val.yes)] T)).alloc (.cells #[(.string ⟨b.name.toArray⟩), (.int .i64 b.op), (.int .i64 b.val.kind), (.int .i64 b.val.int), (.float .f64 b.val.num), (.string ⟨b.val.text.toArray⟩), (.bool b.val.yes)] T)).drew.cell? ⟨w.heap.size, 2, none⟩ = some (.int .i64 a.val.kind) ∧ ((w.alloc (.cells #[(.string ⟨a.name.toArray⟩), (.int .i64 a.op), (.int .i64 a.val.kind), (.int .i64 a.val.int), (.float .f64 a.val.num), (.string ⟨a.val.text.toArray⟩), (.bool a.val.yes)] T)).alloc (.cells #[(.string ⟨b.name.toArray⟩), (.int .i64 b.op), (.int .i64 b.val.kind), (.int .i64 b.val.int), (.float .f64 b.val.num), (.string ⟨b.val.text.toArray⟩), (.bool b.val.yes)] T)).drew.cell? ⟨w.heap.size, 3, none⟩ = some (.int .i64 a.val.int) ∧ ((w.alloc (.cells #[(.string ⟨a.name.toArray⟩), (.int .i64 a.op), (.int .i64 a.val.kind), (.int .i64 a.val.int), (.float .f64 a.val.num), (.string ⟨a.val.text.toArray⟩), (.bool a.val.yes)] T)).alloc (.cells #[(.string ⟨b.name.toArray⟩), (.int .i64 b.op), (.int .i64 b.val.kind), (.int .i64 b.val.int), (.float .f64 b.val.num), (.string ⟨b.val.text.toArray⟩), (.bool b.val.yes)] T)).drew.cell? ⟨w.heap.size, 4, none⟩ = some (.float .f64 a.val.num) ∧ ((w.alloc (.cells #[(.string ⟨a.name.toArray⟩), (.int .i64 a.op), (.int .i64 a.val.kind), (.int .i64 a.val.int), (.float .f64 a.val.num), (.string ⟨a.val.text.toArray⟩), (.bool a.val.yes)] T)).alloc (.cells #[(.string ⟨b.name.toArray⟩), (.int .i64 b.op), (.int .i64 b.val.kind), (.int .i64 b.val.int), (.float .f64 b.val.num), (.string ⟨b.val.text.toArray⟩), (.bool b.val.yes)] T)).drew.cell? ⟨w.heap.size, 5, none⟩ = some (.string ⟨a.val.text.toArray⟩) ∧ ((w.alloc (.cells #[(.string ⟨a.name.toArray⟩), (.int .i64 a.op), (.int .i64 a.val.kind), (.int .i64 a.val.int), (.float .f64 a.val.num), (.string ⟨a.val.text.toArray⟩), (.bool a.val.yes)] T)).alloc (.cells #[(.string ⟨b.name.toArray⟩), (.int .i64 b.op), (.int .i64 b.val.kind), (.int .i64 b.val.int), (.float .f64 b.val.num), (.string ⟨b.val.text.toArray⟩), (.bool b.val.yes)] T)).drew.cell? ⟨w.heap.size, 6, none⟩ = some (.bool a.val.yes) ∧ ((w.alloc (.cells #[(.string ⟨a.name.toArray⟩), (.int .i64 a.op), (.int .i64 a.val.kind), (.int .i64 a.val.int), (.float .f64 a.val.num), (.string ⟨a.val.text.toArray⟩), (.bool a.val.yes)] T)).alloc (.cells #[(.string ⟨b.name.toArray⟩), (.int .i64 b.op), (.int .i64 b.val.kind), (.int .i64 b.val.int), (.float .f64 b.val.num), (.string ⟨b.val.text.toArray⟩), (.bool b.val.yes)] T)).drew.cell? ⟨w.heap.size + 1, 0, none⟩ = some (.string ⟨b.name.toArray⟩) ∧ ((w.alloc (.cells #[(.string ⟨a.name.toArray⟩), (.int .i64 a.op), (.int .i64 a.val.kind), (.int .i64 a.val.int), (.float .f64 a.val.num), (.string ⟨a.val.text.toArray⟩), (.bool a.val.yes)] T)).alloc (.cells #[(.string ⟨b.name.toArray⟩), (.int .i64 b.op), (.int .i64 b.val.kind), (.int .i64 b.val.int), (.float .f64 b.val.num), (.string ⟨b.val.text.toArray⟩), (.bool b.val.yes)] T)).drew.cell? ⟨w.heap.size + 1, 1, none⟩ = some (.int .i64 b.op) ∧ ((w.alloc (.cells #[(.string ⟨a.name.toArray⟩), (.int .i64 a.op), (.int .i64 a.val.kind), (.int .i64 a.val.int), (.float .f64 a.val.num), (.string ⟨a.val.text.toArray⟩), (.bool a.val.yes)] T)).alloc (.cells #[(.string ⟨b.name.toArray⟩), (.int .i64 b.op), (.int .i64 b.val.kind), (.int .i64 b.val.int), (.float .f64 b.val.num), (.string ⟨b.val.text.toArray⟩), (.bool b.val.yes)] T)).drew.cell? ⟨w.heap.size + 1, 2, none⟩ = some (.int .i64 b.val.kind) ∧ ((w.alloc (.cells #[(.string ⟨a.name.toArray⟩), (.int .i64 a.op), (.int .i64 a.val.kind), (.int .i64 a.val.int), (.float .f64 a.val.num), (.string ⟨a.val.text.toArray⟩), (.bool a.val.yes)] T)).alloc (.cells #[(.string ⟨b.name.toArray⟩), (.int .i64 b.op), (.int .i64 b.val.kind), (.int .i64 b.val.int), (.float .f64 b.val.num), (.string ⟨b.val.text.toArray⟩), (.bool b.val.yes)] T)).drew.cell? ⟨w.heap.size + 1, 3, none⟩ = some (.int .i64 b.val.int) ∧ ((w.alloc (.cells #[(.string ⟨a.name.toArray⟩), (.int .i64 a.op), (.int .i64 a.val.kind), (.int .i64 a.val.int), (.float .f64 a.val.num), (.string ⟨a.val.text.toArray⟩), (.bool a.val.yes)] T)).alloc (.cells #[(.string ⟨b.name.toArray⟩), (.int .i64 b.op), (.int .i64 b.val.kind), (.int .i64 b.val.int), (.float .f64 b.val.num), (.string ⟨b.val.text.toArray⟩), (.bool b.val.yes)] T)).drew.cell? ⟨w.heap.size + 1, 4, none⟩ = some (.float .f64 b.val.num) ∧ ((w.alloc (.cells #[(.string ⟨a.name.toArray⟩), (.int .i64 a.op), (.int .i64 a.val.kind), (.int .i64 a.val.int), (.float .f64 a.val.num), (.string ⟨a.val.text.toArray⟩), (.bool a.val.yes)] T)).alloc (.cells #[(.string ⟨b.name.toArray⟩), (.int .i64 b.op), (.int .i64 b.val.kind), (.int .i64 b.val.int), (.float .f64 b.val.num), (.string ⟨b.val.text.toArray⟩), (.bool b.val.yes)] T)).drew.cell? ⟨w.heap.size + 1, 5, none⟩ = some (.string ⟨b.val.text.toArray⟩) ∧ ((w.alloc (.cells #[(.string ⟨a.name.toArray⟩), (.int .i64 a.op), (.int .i64 a.val.kind), (.int .i64 a.val.int), (.float .f64 a.val.num), (.string ⟨a.val.text.toArray⟩), (.bool a.val.yes)] T)).alloc (.cells #[(.string ⟨b.name.toArray⟩), (.int .i64 b.op), (.int .i64 b.val.kind), (.int .i64 b.val.int), (.float .f64 b.val.num), (.string ⟨b.val.text.toArray⟩), (.bool b.val.yes)] T)).drew.cell? ⟨w.heap.size + 1, 6, none⟩ = some (.bool b.val.yes) ∧ Below w.heap.size w ((w.alloc (.cells #[(.string ⟨a.name.toArray⟩), (.int .i64 a.op), (.int .i64 a.val.kind), (.int .i64 a.val.int), (.float .f64 a.val.num), (.string ⟨a.val.text.toArray⟩), (.bool a.val.yes)] T)).alloc (.cells #[(.string ⟨b.name.toArray⟩), (.int .i64 b.op), (.int .i64 b.val.kind), (.int .i64 b.val.int), (.float .f64 b.val.num), (.string ⟨b.val.text.toArray⟩), (.bool b.val.yes)] T)).drew ∧ w.heap.size + 1 < ((w.alloc (.cells #[(.string ⟨a.name.toArray⟩), (.int .i64 a.op), (.int .i64 a.val.kind), (.int .i64 a.val.int), (.float .f64 a.val.num), (.string ⟨a.val.text.toArray⟩), (.bool a.val.yes)] T)).alloc (.cells #[(.string ⟨b.name.toArray⟩), (.int .i64 b.op), (.int .i64 b.val.kind), (.int .i64 b.val.int), (.float .f64 b.val.num), (.string ⟨b.val.text.toArray⟩), (.bool b.val.yes)] T)).drew.heap.size := by
  have c1 : ∀ o, ((w.alloc (.cells #[(.string ⟨a.name.toArray⟩), (.int .i64 a.op), (.int .i64 a.val.kind), (.int .i64 a.val.int), (.float .f64 a.val.num), (.string ⟨a.val.text.toArray⟩), (.bool a.val.yes)] T)).alloc (.cells #[(.string ⟨b.name.toArray⟩), (.int .i64 b.op), (.int .i64 b.val.kind), (.int .i64 b.val.int), (.float .f64 b.val.num), (.string ⟨b.val.text.toArray⟩), (.bool b.val.yes)] T)).drew.cell? ⟨w.heap.size, o, none⟩ = #[(.string ⟨a.name.toArray⟩), (.int .i64 a.op), (.int .i64 a.val.kind), (.int .i64 a.val.int), (.float .f64 a.val.num), (.string ⟨a.val.text.toArray⟩), (.bool a.val.yes)][o]? := fun o => ((balloc (w.alloc (.cells #[(.string ⟨a.name.toArray⟩), (.int .i64 a.op), (.int .i64 a.val.kind), (.int .i64 a.val.int), (.float .f64 a.val.num), (.string ⟨a.val.text.toArray⟩), (.bool a.val.yes)] T)) _).cell (p := ⟨w.heap.size, o, none⟩) (by simp)).trans (World.cell?_alloc_at _ _ _ _ rfl)
  have c2 : ∀ o, ((w.alloc (.cells #[(.string ⟨a.name.toArray⟩), (.int .i64 a.op), (.int .i64 a.val.kind), (.int .i64 a.val.int), (.float .f64 a.val.num), (.string ⟨a.val.text.toArray⟩), (.bool a.val.yes)] T)).alloc (.cells #[(.string ⟨b.name.toArray⟩), (.int .i64 b.op), (.int .i64 b.val.kind), (.int .i64 b.val.int), (.float .f64 b.val.num), (.string ⟨b.val.text.toArray⟩), (.bool b.val.yes)] T)).drew.cell? ⟨w.heap.size + 1, o, none⟩ = #[(.string ⟨b.name.toArray⟩), (.int .i64 b.op), (.int .i64 b.val.kind), (.int .i64 b.val.int), (.float .f64 b.val.num), (.string ⟨b.val.text.toArray⟩), (.bool b.val.yes)][o]? := fun o => World.cell?_alloc_at _ _ _ _ (by simp)
  exact ⟨c1 0, c1 1, c1 2, c1 3, c1 4, c1 5, c1 6, c2 0, c2 1, c2 2, c2 3, c2 4, c2 5, c2 6, bdrewN (balloc2 _ _ _) 1, by show w.heap.size + 1 < ((w.alloc (.cells #[(.string ⟨a.name.toArray⟩), (.int .i64 a.op), (.int .i64 a.val.kind), (.int .i64 a.val.int), (.float .f64 a.val.num), (.string ⟨a.val.text.toArray⟩), (.bool a.val.yes)] T)).alloc (.cells #[(.string ⟨b.name.toArray⟩), (.int .i64 b.op), (.int .i64 b.val.kind), (.int .i64 b.val.int), (.float .f64 b.val.num), (.string ⟨b.val.text.toArray⟩), (.bool b.val.yes)] T)).heap.size; simp⟩
theorem cp_own {a b : C} {w w1 : World} (h : w1.cell? ⟨w.heap.size, 0, none⟩ = some (.string ⟨a.name.toArray⟩) ∧ w1.cell? ⟨w.heap.size, 1, none⟩ = some (.int .i64 a.op) ∧ w1.cell? ⟨w.heap.size, 2, none⟩ = some (.int .i64 a.val.kind) ∧ w1.cell? ⟨w.heap.size, 3, none⟩ = some (.int .i64 a.val.int) ∧ w1.cell? ⟨w.heap.size, 4, none⟩ = some (.float .f64 a.val.num) ∧ w1.cell? ⟨w.heap.size, 5, none⟩ = some (.string ⟨a.val.text.toArray⟩) ∧ w1.cell? ⟨w.heap.size, 6, none⟩ = some (.bool a.val.yes) ∧ w1.cell? ⟨w.heap.size + 1, 0, none⟩ = some (.string ⟨b.name.toArray⟩) ∧ w1.cell? ⟨w.heap.size + 1, 1, none⟩ = some (.int .i64 b.op) ∧ w1.cell? ⟨w.heap.size + 1, 2, none⟩ = some (.int .i64 b.val.kind) ∧ w1.cell? ⟨w.heap.size + 1, 3, none⟩ = some (.int .i64 b.val.int) ∧ w1.cell? ⟨w.heap.size + 1, 4, none⟩ = some (.float .f64 b.val.num) ∧ w1.cell? ⟨w.heap.size + 1, 5, none⟩ = some (.string ⟨b.val.text.toArray⟩) ∧ w1.cell? ⟨w.heap.size + 1, 6, none⟩ = some (.bool b.val.yes) ∧ Below w.heap.size w w1 ∧ w.heap.size + 1 < w1.heap.size) : Below w.heap.size w w1 := h.2.2.2.2.2.2.2.2.2.2.2.2.2.2.1
set_option maxRecDepth 20000 in
set_option maxHeartbeats 2000000 in
theorem cmp_any (a b : C) (w : World) (hw : Words w) (hT : Tab.Tabs w) (ha : CSmall a) (hb : CSmall b) :
    Calls Tryz.prog 28 #[cc a, cc b] w fun e w' => e = .returned (.int .i64 (cmpC a b)) ∧ Below w.heap.size w w' := by
  have hpa : ∀ w1, Below w.heap.size w w1 → Calls Tryz.prog 30 #[cc a] w1 fun e w' => e = .returned (.string ⟨(cT a).toArray⟩) ∧ Below w1.heap.size w1 w' :=
    fun w1 hb1 => cprint_any a.name a.op a.val.kind a.val.int a.val.num a.val.text a.val.yes w1 (hw.below hb1) (hT.below hb1 (Nat.le_refl _)) (by have := ha.1; omega) (by have := ha.2.1; omega) ha.2.2.1 ha.2.2.2.1 ha.2.2.2.2
  have hpb : ∀ w1, Below w.heap.size w w1 → Calls Tryz.prog 30 #[cc b] w1 fun e w' => e = .returned (.string ⟨(cT b).toArray⟩) ∧ Below w1.heap.size w1 w' :=
    fun w1 hb1 => cprint_any b.name b.op b.val.kind b.val.int b.val.num b.val.text b.val.yes w1 (hw.below hb1) (hT.below hb1 (Nat.le_refl _)) (by have := hb.1; omega) (by have := hb.2.1; omega) hb.2.2.1 hb.2.2.2.1 hb.2.2.2.2
  have hr : cmpC a b = Lib.compareBytes (cT a) (cT b) := rfl
  generalize cT a = ta at *
  generalize cT b = tb at *
  generalize cmpC a b = R at *
  have HPA := Lib.hid hpa; have HPB := Lib.hid hpb; have HR := Lib.hid hr
  clear hpa hpb hr hw hT ha hb
  go_enter Tryz.func28, Tryz.ntmps28
  go_wp2_with fail
  go_region_held3 (fun w' => w'.cell? ⟨w.heap.size, 0, none⟩ = some (.string ⟨a.name.toArray⟩) ∧ w'.cell? ⟨w.heap.size, 1, none⟩ = some (.int .i64 a.op) ∧ w'.cell? ⟨w.heap.size, 2, none⟩ = some (.int .i64 a.val.kind) ∧ w'.cell? ⟨w.heap.size, 3, none⟩ = some (.int .i64 a.val.int) ∧ w'.cell? ⟨w.heap.size, 4, none⟩ = some (.float .f64 a.val.num) ∧ w'.cell? ⟨w.heap.size, 5, none⟩ = some (.string ⟨a.val.text.toArray⟩) ∧ w'.cell? ⟨w.heap.size, 6, none⟩ = some (.bool a.val.yes) ∧ w'.cell? ⟨w.heap.size + 1, 0, none⟩ = some (.string ⟨b.name.toArray⟩) ∧ w'.cell? ⟨w.heap.size + 1, 1, none⟩ = some (.int .i64 b.op) ∧ w'.cell? ⟨w.heap.size + 1, 2, none⟩ = some (.int .i64 b.val.kind) ∧ w'.cell? ⟨w.heap.size + 1, 3, none⟩ = some (.int .i64 b.val.int) ∧ w'.cell? ⟨w.heap.size + 1, 4, none⟩ = some (.float .f64 b.val.num) ∧ w'.cell? ⟨w.heap.size + 1, 5, none⟩ = some (.string ⟨b.val.text.toArray⟩) ∧ w'.cell? ⟨w.heap.size + 1, 6, none⟩ = some (.bool b.val.yes) ∧ Below w.heap.size w w' ∧ w.heap.size + 1 < w'.heap.size)
    (first | exact cp_start | assumption | exact cp_below (by assumption) (by assumption))
    (first | (go_at_call 30; (first | (with_reducible refine (HPA.out _ ?_).mono ?_) | (with_reducible refine (HPB.out _ ?_).mono ?_)); (· exact cp_own (by assumption)); rintro e w7 ⟨rfl, hb7⟩) | (go_at_call 29; refine (Tryz.strings_Compare _ _ _).mono ?_; rintro e w8 ⟨rfl, rfl⟩))
  go_wp2_with fail
  go_ret
  exact ⟨by rw [HR.out]; rfl, cp_own (by assumption)⟩
end Go.Proofs.YtfkedobofamkiaaGreatDoor.Val
end

section
/- CONDITIONS IN A ROW, and how the library sorts a short row: plain, and in memory. No walk. -/
namespace Go.Proofs.YtfkedobofamkiaaGreatDoor.Val
open Go.RowKit Flt
def cells7 (c : C) : List Value := [.string ⟨c.name.toArray⟩, .int .i64 c.op, .int .i64 c.val.kind, .int .i64 c.val.int, .float .f64 c.val.num, .string ⟨c.val.text.toArray⟩, .bool c.val.yes]
def flatC (l : List C) : List Value := l.flatMap cells7
theorem flatC_len (l : List C) : (flatC l).length = l.length * 7 := by
  induction l with
  | nil => rfl
  | cons v l ih => unfold flatC at *; rw [List.flatMap_cons, List.length_append, ih]; simp [cells7]; omega
theorem flatC_at : ∀ (l : List C) (i j : Nat) (hi : i < l.length), j < 7 → (flatC l)[i * 7 + j]? = (cells7 l[i])[j]?
  | v :: l, 0, j, _, hj => by
    unfold flatC; rw [List.flatMap_cons, List.getElem?_append_left (by simp [cells7]; omega)]; simp
  | v :: l, i + 1, j, hi, hj => by
    unfold flatC; rw [List.flatMap_cons, List.getElem?_append_right (by simp [cells7]; omega)]
    have e : (i + 1) * 7 + j - (cells7 v).length = i * 7 + j := by simp [cells7]; omega
    rw [e]
    exact flatC_at l i j (by simpa using hi) hj
theorem flatC_one (l : List C) : ∀ u ∈ flatC l, u.oneCell' = true := by
  intro u hu
  obtain ⟨v, _, hv⟩ := List.mem_flatMap.1 hu
  simp only [cells7, List.mem_cons, List.not_mem_nil, or_false] at hv
  rcases hv with rfl | rfl | rfl | rfl | rfl | rfl | rfl <;> rfl
theorem flatC_app (l : List C) (a : C) : flatC (l ++ [a]) = flatC l ++ flatC [a] := by simp [flatC]
/-- a row of conditions, in a block of its own, Z behind -/
def Row (w : World) (g : Nat) (l : List C) (Z : List Value) : Prop := w.heap[g]? = some (.cells (flatC l ++ Z).toArray 59 (0, 0))
theorem Row.at {w : World} {g : Nat} {l : List C} {Z : List Value} (h : Row w g l Z) (i j : Nat) (hi : i < l.length) (hj : j < 7) : w.cell? ⟨g, i * 7 + j, none⟩ = (cells7 l[i])[j]? := by
  have hl := flatC_len l
  rw [cell_of_row w g _ _ _ _ h]
  rw [List.getElem?_toArray, List.getElem?_append_left (by omega), flatC_at l i j hi hj]
theorem Row.cat {w : World} {g : Nat} {l : List C} {Z : List Value} (h : Row w g l Z) (i : Nat) (hi : i < l.length) : CAt w ⟨g, i * 7, none⟩ l[i] :=
  ⟨h.at i 0 hi (by decide), h.at i 1 hi (by decide), h.at i 2 hi (by decide), h.at i 3 hi (by decide), h.at i 4 hi (by decide), h.at i 5 hi (by decide), h.at i 6 hi (by decide)⟩
theorem Row.frz {w : World} {g : Nat} {l : List C} {Z : List Value} (h : Row w g l Z) (o : Nat) : w.frozen? ⟨g, o, none⟩ = false := by
  unfold Row at h
  simp [World.frozen?, h]
theorem Row.lt {w : World} {g : Nat} {l : List C} {Z : List Value} (h : Row w g l Z) : g < w.heap.size := (Array.getElem?_eq_some_iff.1 h).1
theorem Row.below {w w2 : World} {g : Nat} {l : List C} {Z : List Value} {B : Nat} (h : Row w g l Z) (hb : Below B w w2) (hg : g < B) : Row w2 g l Z := (hb.block g hg).trans h
theorem setCell_row {w : World} {g : Nat} {cs : Array Value} {t : TypeId} {fz : Nat × Nat} (h : w.heap[g]? = some (.cells cs t fz)) (o : Nat) (v : Value) :
    (w.setCell ⟨g, o, none⟩ v).heap[g]? = some (.cells (cs.setIfInBounds o v) t fz) := by
  unfold World.setCell
  simp [Array.getElem?_modify, h]
theorem set_mid (P Q : List Value) (x0 x1 x2 x3 x4 x5 x6 v0 v1 v2 v3 v4 v5 v6 : Value) (n : Nat) (hn : P.length = n) :
    (((((((P ++ x0 :: x1 :: x2 :: x3 :: x4 :: x5 :: x6 :: Q).set n v0).set (n + 1) v1).set (n + 2) v2).set (n + 3) v3).set (n + 4) v4).set (n + 5) v5).set (n + 6) v6 =
      P ++ v0 :: v1 :: v2 :: v3 :: v4 :: v5 :: v6 :: Q := by
  subst hn
  have e : ∀ (k : Nat) (L : List Value) (v : Value), (P ++ L).set (P.length + k) v = P ++ L.set k v := fun k L v => by
    rw [List.set_append_right _ _ (by omega)]
    congr 2
    omega
  have e0 : ∀ (L : List Value) (v : Value), (P ++ L).set P.length v = P ++ L.set 0 v := fun L v => e 0 L v
  rw [e0, e, e, e, e, e, e]
  rfl
/-- seven cells stored -/
def put7 (w : World) (g o : Nat) (c : C) : World :=
  ((((((w.setCell ⟨g, o, none⟩ (.string ⟨c.name.toArray⟩)).setCell ⟨g, o + 1, none⟩ (.int .i64 c.op)).setCell ⟨g, o + 2, none⟩ (.int .i64 c.val.kind)).setCell ⟨g, o + 3, none⟩ (.int .i64 c.val.int)).setCell ⟨g, o + 4, none⟩ (.float .f64 c.val.num)).setCell ⟨g, o + 5, none⟩ (.string ⟨c.val.text.toArray⟩)).setCell ⟨g, o + 6, none⟩ (.bool c.val.yes)
theorem store7 {w : World} {g : Nat} {cs : Array Value} {t : TypeId} {fz : Nat × Nat} (h : w.heap[g]? = some (.cells cs t fz)) (o : Nat) (c : C) :
    (put7 w g o c).heap[g]? = some (.cells (((((((cs.setIfInBounds o (.string ⟨c.name.toArray⟩)).setIfInBounds (o + 1) (.int .i64 c.op)).setIfInBounds (o + 2) (.int .i64 c.val.kind)).setIfInBounds (o + 3) (.int .i64 c.val.int)).setIfInBounds (o + 4) (.float .f64 c.val.num)).setIfInBounds (o + 5) (.string ⟨c.val.text.toArray⟩)).setIfInBounds (o + 6) (.bool c.val.yes)) t fz) :=
  setCell_row (setCell_row (setCell_row (setCell_row (setCell_row (setCell_row (setCell_row h o _) _ _) _ _) _ _) _ _) _ _) _ _
theorem flatC_split (l : List C) (j : Nat) (hj : j < l.length) : flatC l = flatC (l.take j) ++ (cells7 l[j] ++ flatC (l.drop (j + 1))) := by
  have e : l = l.take j ++ l[j] :: l.drop (j + 1) := by
    rw [← List.drop_eq_getElem_cons hj, List.take_append_drop]
  rw [show flatC l = flatC (l.take j ++ l[j] :: l.drop (j + 1)) from congrArg flatC e]
  unfold flatC
  rw [List.flatMap_append, List.flatMap_cons]
theorem Row.put {w : World} {g : Nat} {l : List C} {Z : List Value} (h : Row w g l Z) (j : Nat) (hj : j < l.length) (c : C) : Row (put7 w g (j * 7) c) g (l.set j c) Z := by
  refine (store7 h (j * 7) c).trans (congrArg (fun z => some (Obj.cells z 59 (0, 0))) (Array.ext' ?_))
  simp only [Array.toList_setIfInBounds]
  rw [flatC_split l j hj, flatC_split (l.set j c) j (by simpa using hj)]
  have hp : (flatC (l.take j)).length = j * 7 := by rw [flatC_len, List.length_take]; rw [Nat.min_eq_left (by omega)]
  have e1 : (l.set j c).take j = l.take j := List.take_set_of_le (Nat.le_refl _)
  have e2 : (l.set j c).drop (j + 1) = l.drop (j + 1) := List.drop_set_of_lt (by omega)
  have e3 : (l.set j c)[j]'(by simpa using hj) = c := List.getElem_set_self ..
  rw [e1, e2, e3]
  simp only [cells7, List.append_assoc, List.cons_append, List.nil_append]
  exact set_mid _ _ _ _ _ _ _ _ _ _ _ _ _ _ _ _ _ hp
theorem below_put7 {w : World} {B g : Nat} (hg : B ≤ g) (o : Nat) (c : C) : Below B w (put7 w g o c) :=
  (((((((Below.refl B w).setCell hg _).setCell hg _).setCell hg _).setCell hg _).setCell hg _).setCell hg _).setCell hg _
/-- two neighbours change places -/
def swp (L : List C) (j : Nat) : List C := (L.set (j + 1) L[j]!).set j L[j + 1]!
/-- one goes down as far as it is below its neighbour -/
def bub : List C → Nat → List C
  | L, 0 => L
  | L, j + 1 => if cmpC L[j + 1]! L[j]! < 0 then bub (swp L j) j else L
/-- the first i + 1 are brought in order -/
def isort (L : List C) : Nat → List C
  | 0 => L
  | i + 1 => bub (isort L i) (i + 1)
theorem swp_len (L : List C) (j : Nat) : (swp L j).length = L.length := by simp [swp]
theorem bub_len : ∀ (j : Nat) (L : List C), (bub L j).length = L.length
  | 0, L => rfl
  | j + 1, L => by
    unfold bub
    split
    · rw [bub_len j, swp_len]
    · rfl
theorem isort_len (L : List C) : ∀ i, (isort L i).length = L.length
  | 0 => rfl
  | i + 1 => by rw [isort, bub_len, isort_len L i]
theorem swp_mem {L : List C} {j : Nat} (hj : j + 1 < L.length) {x : C} (h : x ∈ swp L j) : x ∈ L := by
  unfold swp at h
  rcases List.mem_or_eq_of_mem_set h with h | h
  · rcases List.mem_or_eq_of_mem_set h with h | h
    · exact h
    · rw [h, getElem!_pos L j (by omega)]; exact List.getElem_mem _
  · rw [h, getElem!_pos L (j + 1) hj]; exact List.getElem_mem _
theorem bub_mem : ∀ (j : Nat) (L : List C), j < L.length → ∀ x ∈ bub L j, x ∈ L
  | 0, L, _, x, h => h
  | j + 1, L, hj, x, h => by
    unfold bub at h
    split at h
    · exact swp_mem hj (bub_mem j _ (by rw [swp_len]; omega) x h)
    · exact h
theorem isort_mem (L : List C) : ∀ i, i < L.length → ∀ x ∈ isort L i, x ∈ L
  | 0, _, x, h => h
  | i + 1, hi, x, h => isort_mem L i (by omega) x (bub_mem (i + 1) _ (by rw [isort_len]; exact hi) x h)
end Go.Proofs.YtfkedobofamkiaaGreatDoor.Val
end
