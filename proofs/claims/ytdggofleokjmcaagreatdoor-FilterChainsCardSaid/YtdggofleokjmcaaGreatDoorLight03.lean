/- THE WALK OF light of chapter 03's laws; of a name the last attribute. -/
import Derived.Test.YtdggofleokjmcaaGreatDoorFit03
import Derived.Test.YtdggofleokjmcaaGreatDoorOpenA
namespace Go.Proofs.YtdggofleokjmcaaGreatDoor.Val
open Go.RowKit Flt
attribute [local go_sem] run_store_flt
def lit1 (a : A) : Bool := decide (a.name.length + a.val.text.length ≤ 300)
def lightB (l : List A) : Bool := l.all lit1 && decide (l.length ≤ 30)
theorem all_take_succ (l : List A) (k : Nat) (h : k < l.length) : (l.take (k + 1)).all lit1 = ((l.take k).all lit1 && lit1 l[k]) := by
  rw [List.take_succ_eq_append_getElem h]; simp only [List.all_append, List.all_cons, List.all_nil, Bool.and_true]
theorem all_no (l : List A) (k : Nat) (h : k < l.length) (hk : lit1 l[k] = false) : l.all lit1 = false := by
  rw [Bool.eq_false_iff]; intro ha
  have := List.all_eq_true.1 ha l[k] (List.getElem_mem h)
  rw [hk] at this; cases this
set_option maxHeartbeats 1000000 in
theorem light03_any (a0 : Option Addr) (cap : Nat) (l : List A) (w : World) (hl : Attrs w a0 l) (hok : ∀ x ∈ l, Open.AOk x) (hm : l.length ≤ maxLen) :
    Calls Tryz.prog 16 #[.slice a0 l.length cap] w fun e w' => e = .returned (.bool (lightB l)) ∧ Below w.heap.size w w' := by
  have hr : lightB l = (l.all lit1 && decide (l.length ≤ 30)) := rfl
  unfold maxLen at hm
  have HR := Lib.hid hr; have HL := Lib.hid hl; have HOK := Lib.hid hok; clear hr hl hok
  go_enter Tryz.func16, Tryz.ntmps16
  go_wp2_with fail
  go_loopw [7] (fun vi wr => ∃ k : Nat, k ≤ l.length ∧ vi = .int .i64 k ∧ Hid ((l.take k).all lit1 = true) ∧ Below w.heap.size w wr) (fun vi _ => l.length - (intOf vi).toNat)
  case atStart => exact ⟨0, Nat.zero_le _, rfl, Lib.hid rfl, Below.refl _ _⟩
  case round =>
    obtain ⟨k, hk, rfl, HP, hbr⟩ := hrel
    by_cases hlt : k < l.length
    · have i1 : (k : Int) < (l.length : Int) := by omega
      have i0 : (0 : Int) ≤ (k : Int) := by omega
      obtain ⟨a, rfl, v0, v1, v2, v3, v4, v5⟩ := (HL.out.below hbr) k hlt
      have hx := HOK.out _ (List.getElem_mem hlt)
      have hx1 : l[k].name.length ≤ 140737488351232 := hx.1
      have hx2 : l[k].val.text.length ≤ 140737488351232 := hx.2.2.2.2
      have hts := all_take_succ l k hlt
      have hno := all_no l k hlt
      have hl1 : lit1 l[k] = decide (l[k].name.length + l[k].val.text.length ≤ 300) := rfl
      rw [HP.out, Bool.true_and] at hts
      have HTS := Lib.hid hts; have HNO := Lib.hid hno; have HL1 := Lib.hid hl1
      clear hts hno hl1 HP hx
      have hw : IntKind.i64.wrap ((l[k].name.length : Int) + (l[k].val.text.length : Int)) = (l[k].name.length : Int) + (l[k].val.text.length : Int) := by
        simp only [IntKind.wrap, IntKind.bits, IntKind.signed]; simp; omega
      by_cases hs : l[k].name.length + l[k].val.text.length ≤ 300
      · have d1 : decide (300 < (l[k].name.length : Int) + (l[k].val.text.length : Int)) = false := by rw [decide_eq_false_iff_not]; omega
        have hy : lit1 l[k] = true := by rw [HL1.out]; simpa using hs
        have HY := Lib.hid hy; clear hy hs
        go_wp2_with fail
        exact ⟨⟨k + 1, by omega, by go_num, Lib.hid (HTS.out.trans HY.out), by repeat (first | assumption | (with_reducible exact Below.refl _ _) | exact balloc _ _ | exact balloc2 _ _ _ | refine btrans ?_ (by assumption) | refine btrans ?_ (balloc _ _))⟩, by simp [intOf]; go_num⟩
      · have d1 : decide (300 < (l[k].name.length : Int) + (l[k].val.text.length : Int)) = true := by rw [decide_eq_true_iff]; omega
        have hy : lit1 l[k] = false := by rw [HL1.out]; simpa using hs
        have HY := Lib.hid hy; clear hy hs
        go_wp2_with fail
        go_ret
        exact ⟨ret_bool (by rw [HR.out, HNO.out HY.out]; rfl), by repeat (first | assumption | (with_reducible exact Below.refl _ _) | exact balloc _ _ | exact balloc2 _ _ _ | refine btrans ?_ (by assumption) | refine btrans ?_ (balloc _ _))⟩
    · obtain rfl : k = l.length := by omega
      go_wp2
      go_ret
      exact ⟨ret_bool (by have := HP.out; rw [List.take_length] at this; rw [HR.out, this, Bool.eq_iff_iff]; simp; omega), hbr⟩
theorem fold_skip (t : List UInt8) : ∀ (l : List A) (o : Option V), (∀ a ∈ l, a.name ≠ t) → l.foldl (fun o a => if a.name = t then some (canonV a.val) else o) o = o
  | [], _, _ => rfl
  | a :: l, o, h => by rw [List.foldl_cons, if_neg (h a (by simp))]; exact fold_skip t l o fun b hb => h b (by simp [hb])
theorem last_at {l : List A} {t : List UInt8} {i : Nat} (hi : i < l.length) (he : l[i].name = t) (h : ∀ j (hj : j < l.length), i + 1 ≤ j → l[j].name ≠ t) : lastV l t = some (canonV l[i].val) := by
  have e : l = l.take (i + 1) ++ l.drop (i + 1) := (List.take_append_drop _ _).symm
  have hs : lastV l t = lastV (l.take (i + 1)) t := by
    conv => lhs; rw [e]
    unfold lastV
    rw [List.foldl_append]
    refine fold_skip t _ _ fun a ha => ?_
    obtain ⟨k, hk, hak⟩ := List.mem_iff_getElem.1 ha
    rw [List.getElem_drop] at hak
    rw [← hak]
    exact h _ _ (by omega)
  rw [hs, List.take_succ_eq_append_getElem hi, lastV_snoc, if_pos he]
theorem last_no {l : List A} {t : List UInt8} (h : ∀ j (hj : j < l.length), 0 ≤ j → l[j].name ≠ t) : lastV l t = none :=
  lastV_none fun a ha => by
    obtain ⟨k, hk, rfl⟩ := List.mem_iff_getElem.1 ha
    exact h k hk (Nat.zero_le _)
end Go.Proofs.YtdggofleokjmcaaGreatDoor.Val
