/- THE WALK OF event.Same. -/
import Derived.Test.YtdggofleokjmcaaGreatDoorAttr
import Derived.Test.YtdggofleokjmcaaGreatDoorSame
namespace Go.Proofs.YtdggofleokjmcaaGreatDoor.Val
open Go.RowKit Flt
attribute [local go_sem] run_store_flt
def NumOk (l : List A) : Prop := ∀ a ∈ l, a.val.num < 18446744073709551616
def sameA (x y : A) : Bool := x.name == y.name && sameB x.val y.val
def sameN (l m : List A) : Nat → Bool
  | 0 => true
  | k + 1 => sameN l m k && sameA l[k]! m[k]!
def sameL (l m : List A) : Bool := l.length == m.length && sameN l m l.length
theorem sameN_no (l m : List A) (k n : Nat) (h : k < n) (hk : sameA l[k]! m[k]! = false) : sameN l m n = false := by
  induction n with
  | zero => omega
  | succ n ih =>
    unfold sameN
    by_cases e : k = n
    · subst e; rw [hk]; simp
    · rw [ih (by omega)]; rfl
theorem sameA_self (x : A) : sameA x x = true := by
  unfold sameA sameB
  simp [Ord.same]
theorem sameN_self (l : List A) : ∀ k, sameN l l k = true
  | 0 => rfl
  | k + 1 => by unfold sameN; rw [sameN_self l k, sameA_self]; rfl
theorem sameL_self (l : List A) : sameL l l = true := by unfold sameL; rw [sameN_self]; simp
set_option maxHeartbeats 400000 in
theorem same1_any (a b : A) (w : World) (h1 : a.val.num < 18446744073709551616) (h2 : b.val.num < 18446744073709551616) :
    Calls Tryz.prog 51 #[aa a, aa b] w fun e w' => e = .returned (.bool (sameA a b)) ∧ Below w.heap.size w w' := by
  obtain ⟨nm, k, n, x, tx, y⟩ := a
  obtain ⟨nm2, k2, n2, x2, tx2, y2⟩ := b
  have hr : sameA ⟨nm, k, n, x, tx, y⟩ ⟨nm2, k2, n2, x2, tx2, y2⟩ = (nm == nm2 && sameB ⟨k, n, x, tx, y⟩ ⟨k2, n2, x2, tx2, y2⟩) := rfl
  have hs (w : World) := same_any k n x tx y k2 n2 x2 tx2 y2 w h1 h2
  generalize sameB ⟨k, n, x, tx, y⟩ ⟨k2, n2, x2, tx2, y2⟩ = sb at *
  have HR := Lib.hid hr; have HS := Lib.hid hs; clear hr hs h1 h2
  cases hn : (nm == nm2)
  all_goals
    go_enter Tryz.func51, Tryz.ntmps51
    go_wp2_with (go_at_call 22; refine (HS.out _).mono ?_; rintro e w1 ⟨rfl, hb1⟩)
    go_ret
    exact ⟨ret_bool (by rw [HR.out, hn]; rfl), by repeat (first | assumption | (with_reducible exact Below.refl _ _) | exact balloc _ _ | exact balloc2 _ _ _ | refine btrans ?_ (by assumption) | refine btrans ?_ (balloc _ _))⟩
set_option maxHeartbeats 1000000 in
theorem equal_any (a0 b0 : Option Addr) (c1 c2 : Nat) (l m : List A) (w : World) (hl : Attrs w a0 l) (hm : Attrs w b0 m) (_hlm : l.length ≤ 1000000) (hmm : m.length ≤ 1000000) (nl : NumOk l) (nm : NumOk m) :
    Calls Tryz.prog 50 #[.slice a0 l.length c1, .slice b0 m.length c2, .func (.func 51) #[] #[]] w fun e w' =>
      e = .returned (.bool (sameL l m)) ∧ Below w.heap.size w w' := by
  have hr : sameL l m = (l.length == m.length && sameN l m l.length) := rfl
  have HR := Lib.hid hr; have HL := Lib.hid hl; have HM := Lib.hid hm; have NL := Lib.hid nl; have NM := Lib.hid nm
  clear hr hl hm nl nm
  by_cases hlen : l.length = m.length
  · have hl1 : ((l.length : Int) != (m.length : Int)) = false := by rw [hlen]; simp
    have hl2 : l.length ≤ m.length := by omega
    have HLEN := Lib.hid hlen; clear hlen
    go_enter Tryz.func50, Tryz.ntmps50
    go_wp2_with fail
    go_loopw [17] (fun vi wr => ∃ k : Nat, k ≤ l.length ∧ vi = .int .i64 k ∧ Hid (sameN l m k = true) ∧ Below w.heap.size w wr) (fun vi _ => l.length - (intOf vi).toNat)
    case atStart => exact ⟨0, Nat.zero_le _, rfl, Lib.hid rfl, Below.refl _ _⟩
    case round =>
      obtain ⟨k, hk, rfl, HP, hbr⟩ := hrel
      by_cases hlt : k < l.length
      · have i1 : (k : Int) < (l.length : Int) := by omega
        have i2 : (k : Int) < (m.length : Int) := by omega
        have i0 : (0 : Int) ≤ (k : Int) := by omega
        have hkm : k < m.length := by omega
        obtain ⟨a, rfl, v0, v1, v2, v3, v4, v5⟩ := (HL.out.below hbr) k hlt
        obtain ⟨b, rfl, y0, y1, y2, y3, y4, y5⟩ := (HM.out.below hbr) k hkm
        have hbl := World.block_lt_of_cell? _ _ y0
        have hs (w : World) := same1_any l[k] m[k] w (NL.out _ (List.getElem_mem hlt)) (NM.out _ (List.getElem_mem hkm))
        have hg1 : l[k]! = l[k] := getElem!_pos l _ hlt
        have hg2 : m[k]! = m[k] := getElem!_pos m _ hkm
        have hn1 : sameN l m (k + 1) = sameA l[k] m[k] := by unfold sameN; rw [HP.out, hg1, hg2]; rfl
        have hn2 : sameA l[k] m[k] = false → sameN l m l.length = false := fun h => sameN_no l m k _ hlt (by rw [hg1, hg2]; exact h)
        obtain ⟨za, ea, hza⟩ : ∃ (za : Bool) (_ : True), sameA l[k] m[k] = za := ⟨_, trivial, rfl⟩
        rw [hza] at hn1 hn2 hs
        have HN1 := Lib.hid hn1; have HN2 := Lib.hid hn2; have HS := Lib.hid hs
        clear hn1 hn2 hs hza hg1 hg2 HP
        generalize l[k] = p at *
        generalize m[k] = q at *
        obtain ⟨pn, pk, pi, px, pt, py⟩ := p
        obtain ⟨qn, qk, qi, qx, qt, qy⟩ := q
        cases za
        · go_wp2_with (go_at_call 51; refine (HS.out _).mono ?_; rintro e w2 ⟨rfl, hb2⟩)
          go_ret
          exact ⟨ret_bool (by rw [HR.out, HN2.out trivial]; simp), by repeat (first | assumption | (with_reducible exact Below.refl _ _) | exact balloc _ _ | exact balloc2 _ _ _ | refine btrans ?_ (by assumption) | refine btrans ?_ (balloc _ _))⟩
        · go_wp2_with (go_at_call 51; refine (HS.out _).mono ?_; rintro e w2 ⟨rfl, hb2⟩)
          exact ⟨⟨k + 1, by omega, by go_num, HN1, by repeat (first | assumption | (with_reducible exact Below.refl _ _) | exact balloc _ _ | exact balloc2 _ _ _ | refine btrans ?_ (by assumption) | refine btrans ?_ (balloc _ _))⟩, by simp [intOf]; go_num⟩
      · obtain rfl : k = l.length := by omega
        go_wp2
        go_ret
        exact ⟨ret_bool (by rw [HR.out, HP.out, HLEN.out]; simp), by repeat (first | assumption | (with_reducible exact Below.refl _ _) | exact balloc _ _ | exact balloc2 _ _ _ | refine btrans ?_ (by assumption) | refine btrans ?_ (balloc _ _))⟩
  · have hl1 : ((l.length : Int) != (m.length : Int)) = true := by simp; omega
    have hq : sameL l m = false := by rw [HR.out, show (l.length == m.length) = false by simpa using hlen]; rfl
    have HQ := Lib.hid hq; clear hq hlen
    go_enter Tryz.func50, Tryz.ntmps50
    go_wp2_with fail
    go_ret
    exact ⟨ret_bool HQ.out.symm, by repeat (first | assumption | (with_reducible exact Below.refl _ _) | exact balloc _ _ | exact balloc2 _ _ _ | refine btrans ?_ (by assumption) | refine btrans ?_ (balloc _ _))⟩
set_option maxHeartbeats 400000 in
theorem esame_any (s t : List UInt8) (a0 b0 : Option Addr) (c1 c2 : Nat) (l m : List A) (w : World) (hl : Attrs w a0 l) (hm : Attrs w b0 m) (hlm : l.length ≤ 1000000) (hmm : m.length ≤ 1000000) (nl : NumOk l) (nm : NumOk m) :
    Calls Tryz.prog 21 #[ev s a0 l.length c1, ev t b0 m.length c2] w fun e w' => e = .returned (.bool (s == t && sameL l m)) ∧ Below w.heap.size w w' := by
  have he (w : World) (h1 : Attrs w a0 l) (h2 : Attrs w b0 m) := equal_any a0 b0 c1 c2 l m w h1 h2 hlm hmm nl nm
  have HL := Lib.hid hl; have HM := Lib.hid hm; have HE := Lib.hid he; clear hl hm he nl nm hlm hmm
  generalize sameL l m = sb at *
  generalize l.length = ln at *
  generalize m.length = mn at *
  cases hst : (s == t)
  all_goals
    go_enter Tryz.func21, Tryz.ntmps21
    go_wp2_with (go_at_call 50; refine (HE.out _ (HL.out.below (by repeat (first | assumption | (with_reducible exact Below.refl _ _) | exact balloc _ _ | exact balloc2 _ _ _ | refine btrans ?_ (by assumption) | refine btrans ?_ (balloc _ _)))) (HM.out.below (by repeat (first | assumption | (with_reducible exact Below.refl _ _) | exact balloc _ _ | exact balloc2 _ _ _ | refine btrans ?_ (by assumption) | refine btrans ?_ (balloc _ _))))).mono ?_; rintro e w2 ⟨rfl, hb1⟩)
    go_ret
    exact ⟨ret_bool rfl, by repeat (first | assumption | (with_reducible exact Below.refl _ _) | exact balloc _ _ | exact balloc2 _ _ _ | refine btrans ?_ (by assumption) | refine btrans ?_ (balloc _ _))⟩
end Go.Proofs.YtdggofleokjmcaaGreatDoor.Val
