/- THE WALK OF slices.Insert at attributes, one element, onto a row of the call's own: at the end. -/
import Derived.Test.YtpbdgbejcdncgaaFlatA
namespace Go.Proofs.Ytpbdgbejcdncgaa.Val
open Go.RowKit Flt
theorem liesA_one {w : World} {b off : Nat} {a : A} (h : AAt w ⟨b, off, none⟩ a) : ∀ j u, (flatA [a])[j]? = some u → w.cell? ((⟨b, off, none⟩ : Addr).add j) = some u := by
  intro j u hj
  obtain ⟨h0, h1, h2, h3, h4, h5⟩ := h
  have hadd : (⟨b, off, none⟩ : Addr).add j = ⟨b, off + j, none⟩ := by unfold Addr.add; split <;> simp_all
  rw [hadd]
  have hjl : j < 6 := by have := (List.getElem?_eq_some_iff.1 hj).1; simpa [flatA, cells6] using this
  match j, hjl, hj with
  | 0, _, hj => simp [flatA, cells6] at hj; subst hj; exact h0
  | 1, _, hj => simp [flatA, cells6] at hj; subst hj; exact h1
  | 2, _, hj => simp [flatA, cells6] at hj; subst hj; exact h2
  | 3, _, hj => simp [flatA, cells6] at hj; subst hj; exact h3
  | 4, _, hj => simp [flatA, cells6] at hj; subst hj; exact h4
  | 5, _, hj => simp [flatA, cells6] at hj; subst hj; exact h5
set_option maxRecDepth 20000 in
set_option maxHeartbeats 4000000 in
theorem insert_end (a0 : Option Addr) (cap : Nat) (l : List A) (a : A) (b off c base : Nat) (w : World) (hown : w.ownsRow base 76 6 (.slice a0 l.length cap) l.length (flatA l)) (hba : base ≤ w.heap.size) (hlm : l.length ≤ 1000000) (ha : AAt w ⟨b, off, none⟩ a) :
    Calls Try.prog 44 #[.slice a0 l.length cap, .int .i64 l.length, .slice (some ⟨b, off, none⟩) 1 c] w fun e w' =>
      ∃ v', e = .returned v' ∧ w'.ownsRow base 76 6 v' (l ++ [a]).length (flatA (l ++ [a])) ∧ w.grownBy w' (Value.slice a0 l.length cap).ownBlock := by
  have OWN := Lib.hid hown
  have hlc : l.length ≤ cap := by
    rcases hown.2 with ⟨h, h0⟩ | ⟨g, cp, cur, h, _, _, hn, _⟩
    · omega
    · cases h; exact hn
  clear hown
  have HA := Lib.hid (liesA_one ha); clear ha
  obtain ⟨i0, hi, hz0, hz1, hz2⟩ := info_parts info_attr
  go_enter Try.func44, Try.ntmps44
  go_wp2_with (at_builtin; refine wpList_append_own _ rfl _ _ 29 rfl base 76 i0 (.agg #[.string .empty, .int .i64 0, .int .i64 0, .float .f64 0, .string .empty, .bool false]) 6 64 Try.underlying29 hi hz0 hz1 hz2 rfl (by decide) (.slice a0 l.length cap) l.length (flatA l) rfl OWN.out ⟨b, off, none⟩ 1 c (flatA [a]) rfl rfl HA.out (flatA_one _) (by unfold maxLen; omega) (by omega) hba ?_; intro v' w4 hown' hgrow3 hnil3)
  all_goals
    go_ret
    refine ⟨v', rfl, ?_, ?_⟩
    · first | exact hown' | (rw [flatA_app]; exact hown') | simpa [flatA_app] using hown'
    · first | exact hgrow3 | simpa [*] using hgrow3 | (rename_i hq; rw [← hq]; exact hgrow3) | (rename_i hq; rw [hq]; exact hgrow3)
end Go.Proofs.Ytpbdgbejcdncgaa.Val
