/- THE WALK OF value.Print: what a value's text is. -/
import Derived.Test.YthgjddbfjmgkhaaGreatDoorVal
import Derived.Test.YthgjddbfjmgkhaaGreatDoorQuo
import Derived.Test.YthgjddbfjmgkhaaGreatDoorTabs
import Derived.Lib.AppendIntMem
namespace Go.Proofs.YthgjddbfjmgkhaaGreatDoor.Val
open Go.RowKit Flt
def yesT : List UInt8 := [121, 101, 115]
def noT : List UInt8 := [110, 111]
/-- a value's text -/
def vT (v : V) : List UInt8 :=
  if v.kind == 0 then Lib.itoa v.int else if v.kind == 1 then Fmt.fltT (Ord.canon v.num) else if v.kind == 2 then Quo.quoteT Lib.goPrintTabs v.text else if v.yes then yesT else noT
theorem canon_lt (x : Nat) (h : x < 18446744073709551616) : Ord.canon x < 18446744073709551616 := by
  unfold Ord.canon Ord.nan0
  split
  · decide
  · split
    · decide
    · exact h
theorem flt_ascii (b : Nat) : ∀ c ∈ Fmt.ftoaT b, c.toNat < 128 := by
  intro c hc
  have hx : Fmt.bexp b < 2048 := Nat.mod_lt _ (by decide)
  unfold Fmt.ftoaT at hc
  split at hc
  · split at hc
    · simp only [List.mem_cons, List.not_mem_nil, or_false] at hc
      rcases hc with rfl | rfl | rfl <;> decide
    · split at hc
      · simp only [List.mem_cons, List.not_mem_nil, or_false] at hc
        rcases hc with rfl | rfl | rfl | rfl <;> decide
      · simp only [List.mem_cons, List.not_mem_nil, or_false] at hc
        rcases hc with rfl | rfl | rfl | rfl <;> decide
  · have hs : ∀ c ∈ Fmt.sgn (Fmt.bneg b), c.toNat < 128 := by
      intro c hc
      unfold Fmt.sgn at hc
      split at hc
      · rw [List.mem_singleton] at hc; subst hc; decide
      · cases hc
    rename_i h1
    split at hc
    · rcases List.mem_append.1 hc with hc | hc
      · exact hs c hc
      · rw [List.mem_singleton] at hc; subst hc; decide
    · rename_i h2
      rcases List.mem_append.1 hc with hc | hc
      · exact hs c hc
      · rcases (Fmt.Num.mk (by omega) (by omega) : Fmt.Num b).isN c hc with h | h | h | h | h
        · unfold Fmt.IsD at h; omega
        all_goals (subst h; decide)
theorem flt_len (b : Nat) : (Fmt.ftoaT b).length ≤ 1000 := by
  have hx : Fmt.bexp b < 2048 := Nat.mod_lt _ (by decide)
  unfold Fmt.ftoaT
  split
  · split
    · decide
    · split <;> decide
  · have hs : (Fmt.sgn (Fmt.bneg b)).length ≤ 1 := by unfold Fmt.sgn; split <;> decide
    rename_i h1
    split
    · rw [List.length_append, List.length_singleton]; omega
    · rename_i h2
      have hn := (Fmt.Num.mk (by omega) (by omega) : Fmt.Num b)
      obtain ⟨f1, f2, f3, f4⟩ := hn.facts
      obtain ⟨g1, g2, g3, g4⟩ := hn.nd
      rw [List.length_append]
      have : (Fmt.numT b).length ≤ 900 := by
        unfold Fmt.numT
        generalize Fmt.digs _ = D at *
        generalize (Lib.nDigits (Fmt.short (Fmt.fm b) (Fmt.fE b)).1 : Nat) = n at *
        generalize (Fmt.short (Fmt.fm b) (Fmt.fE b)).2 = p at *
        unfold Fmt.gText
        split
        · unfold Fmt.eText Fmt.exps
          simp only [List.length_append, List.length_cons, List.length_nil]
          split <;> split <;> split <;> simp <;> omega
        · unfold Fmt.fText
          rw [List.length_append]
          split <;> split <;> simp <;> omega
      omega
theorem badd (s t : List UInt8) : (⟨s.toArray⟩ : ByteArray) ++ ⟨t.toArray⟩ = ⟨(s ++ t).toArray⟩ := by
  apply ByteArray.ext
  simp
theorem quote_at (t : List UInt8) (W : World) (hl : t.length ≤ 1000000) (hW : Tab.Tabs W) :
    Calls Tryz.prog 55 #[.string ⟨t.toArray⟩] W fun e w' => e = .returned (.string ⟨(Quo.quoteT Lib.goPrintTabs t).toArray⟩) ∧ Below W.heap.size W w' := by
  have h : (⟨t.toArray⟩ : ByteArray).size = t.length := by simp [ByteArray.size]
  exact Tryz.strconv_Quote Lib.goPrintTabs ⟨t.toArray⟩ W (by rw [h]; omega) hW.prt hW.utf
theorem itoa_at (n : Int) (W : World) (h0 : -9223372036854775808 ≤ n) (h1 : n ≤ 9223372036854775807) (hW : Fmt.P10 W) :
    Calls Tryz.prog 53 #[.int .i64 n, .int .i64 10] W fun e w' => e = .returned (.string ⟨(Lib.itoa n).toArray⟩) ∧ Below W.heap.size W w' := by
  refine (Tryz.strconv_FormatInt_10 n h0 h1 W hW).mono ?_
  rintro e w' ⟨rfl, k, os, rfl⟩
  exact ⟨rfl, Go.Lib.below_grow _ _ (Nat.le_refl _) _ _⟩
theorem any_at (t : List UInt8) (W : World) (ha : ∀ c ∈ t, c.toNat < 128) (hl : t.length ≤ 1000) :
    Calls Tryz.prog 35 #[.string ⟨t.toArray⟩, .string ⟨#[46, 101, 73, 78]⟩] W fun e w' => e = .returned (.bool (Fmt.marked t)) ∧ Below W.heap.size W w' := by
  have h : (⟨t.toArray⟩ : ByteArray).size = t.length := by simp [ByteArray.size]
  refine Tryz.strings_ContainsAny_laid ⟨t.toArray⟩ ⟨#[46, 101, 73, 78]⟩ W (by rw [h]; omega) (by decide) (fun j b hb => ha b ?_) (fun j b hb => ?_)
  · exact List.mem_of_getElem? hb
  · have : b ∈ [46, 101, 73, 78] := List.mem_of_getElem? hb
    simp only [List.mem_cons, List.not_mem_nil, or_false] at this
    rcases this with rfl | rfl | rfl | rfl <;> decide
set_option maxRecDepth 20000 in
set_option maxHeartbeats 1000000 in
theorem vprint_any (k n : Int) (x : Nat) (t : List UInt8) (y : Bool) (w : World) (hx : x < 18446744073709551616) (h0 : -9223372036854775808 ≤ n) (h1 : n ≤ 9223372036854775807) (hl : t.length ≤ 1000000) (hT : Tab.Tabs w) :
    Calls Tryz.prog 39 #[val k n x t y] w fun e w' => e = .returned (.string ⟨(vT ⟨k, n, x, t, y⟩).toArray⟩) ∧ Below w.heap.size w w' := by
  have hr : vT ⟨k, n, x, t, y⟩ = (if k == 0 then Lib.itoa n else if k == 1 then Fmt.fltT (Ord.canon x) else if k == 2 then Quo.quoteT Lib.goPrintTabs t else if y then yesT else noT) := rfl
  have HT := Lib.hid hT; clear hT
  cases q0 : (k == 0)
  · cases q1 : (k == 1)
    · cases q2 : (k == 2)
      · rw [q0, q1, q2] at hr
        cases y
        all_goals
          rw [hr]; clear hr
          go_enter Tryz.func39, Tryz.ntmps39
          go_wp2
          go_ret
          exact ⟨rfl, balloc _ _⟩
      · rw [q0, q1, q2] at hr
        have HR := Lib.hid hr; clear hr
        have hq := fun W hW => quote_at t W hl hW
        have HQ := Lib.hid hq; clear hq
        go_enter Tryz.func39, Tryz.ntmps39
        go_wp2_with (first | (go_at_call 55; refine (HQ.out _ (HT.out.below (by first | exact balloc _ _ | exact (balloc _ _).drew) (Nat.le_refl _))).mono ?_; rintro e w1 ⟨rfl, hb1⟩; have HB := Lib.hid hb1; clear hb1) | fail)
        go_ret
        exact ⟨by rw [HR.out]; rfl, btrans (by first | exact balloc _ _ | exact (balloc _ _).drew) HB.out⟩
    · rw [q0, q1] at hr
      have hf := fun W hW => Fmt.format_any (Ord.canon x) W (canon_lt x hx) (Tab.Tabs.pow hW) (Tab.Tabs.p10 hW)
      have hm := fun W => any_at (Fmt.ftoaT (Ord.canon x)) W (flt_ascii _) (flt_len _)
      have ht : Fmt.fltT (Ord.canon x) = if Fmt.marked (Fmt.ftoaT (Ord.canon x)) then Fmt.ftoaT (Ord.canon x) else Fmt.ftoaT (Ord.canon x) ++ [46, 48] := rfl
      have hlen := flt_len (Ord.canon x)
      rw [ht] at hr
      clear ht
      generalize Fmt.ftoaT (Ord.canon x) = s at *
      cases hmk : Fmt.marked s
      all_goals
        rw [hmk] at hr hm
        clear hmk
        have HR := Lib.hid hr; clear hr
        have HF := Lib.hid hf; have HM := Lib.hid hm; clear hf hm
        go_enter Tryz.func39, Tryz.ntmps39
        go_wp2_with (first | (go_at_call 37; refine (Ord.canon_any _ _).mono ?_; rintro e w' ⟨rfl, rfl⟩) | (go_at_call 54; refine (HF.out _ (HT.out.below (by first | exact balloc _ _ | exact (balloc _ _).drew) (Nat.le_refl _))).mono ?_; rintro e w1 ⟨rfl, hb1⟩; have HB := Lib.hid hb1; clear hb1) | (go_at_call 35; refine (HM.out _).mono ?_; rintro e w2 ⟨rfl, hb2⟩; have HC := Lib.hid hb2; clear hb2) | fail)
        go_ret
        exact ⟨by rw [HR.out]; first | rfl | exact congrArg (fun z => Ending.returned (Value.string z)) (badd s [46, 48]), btrans (btrans (by first | exact balloc _ _ | exact (balloc _ _).drew) HB.out) HC.out⟩
  · rw [q0] at hr
    have HR := Lib.hid hr; clear hr
    have hf := fun W hW => itoa_at n W h0 h1 (Tab.Tabs.p10 hW)
    have HF := Lib.hid hf; clear hf
    go_enter Tryz.func39, Tryz.ntmps39
    go_wp2_with (first | (go_at_call 53; refine (HF.out _ (HT.out.below (by first | exact balloc _ _ | exact (balloc _ _).drew) (Nat.le_refl _))).mono ?_; rintro e w1 ⟨rfl, hb1⟩; have HB := Lib.hid hb1; clear hb1) | fail)
    go_ret
    exact ⟨by rw [HR.out]; rfl, btrans (by first | exact balloc _ _ | exact (balloc _ _).drew) HB.out⟩
end Go.Proofs.YthgjddbfjmgkhaaGreatDoor.Val
