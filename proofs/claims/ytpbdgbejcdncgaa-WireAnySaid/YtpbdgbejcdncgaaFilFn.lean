/- PLAIN LAW OF FILTERS: what covers what, what does; the attributes of the laws' events. No walk. -/
import Derived.Test.YtpbdgbejcdncgaaMatchFn
import Derived.Test.YtpbdgbejcdncgaaRightA
import Derived.Test.YtpbdgbejcdncgaaConds
import Derived.Test.YtpbdgbejcdncgaaScFn
namespace Go.Proofs.Ytpbdgbejcdncgaa.Val
open Flt
def fRight (sc : List UInt8) (l : List C) : Bool := l.all cRight && (Sc.rightB sc && decide (l.length ≤ 6))
def fVoid (l : List C) : Bool := l.any cvoidB
def fMatch (sc : List UInt8) (l : List C) (es : List UInt8) (al : List A) : Bool := l.all (fun c => matchB c al) && Sc.underB es sc
def fSome (c : C) (m : List C) : Bool := m.any (fun d => impliesB d c)
def fCovers (sc : List UInt8) (l : List C) (sd : List UInt8) (m : List C) : Bool := fVoid m || (l.all (fun c => fSome c m) && Sc.underB sd sc)
theorem cright_op7 {c : C} (h : cRight c = true) : 0 ≤ c.op ∧ c.op ≤ 7 := by
  unfold cRight at h; simp at h; exact ⟨h.1.1.2, h.1.2⟩
theorem fright_op {sc : List UInt8} {l : List C} (h : fRight sc l = true) : ∀ c ∈ l, 0 ≤ c.op ∧ c.op ≤ 7 := by
  unfold fRight at h
  simp only [Bool.and_eq_true, List.all_eq_true] at h
  exact fun c hc => cright_op7 (h.1 c hc)
theorem implies_name {d c : C} (h : impliesB d c = true) : d.name = c.name := by
  unfold impliesB at h
  by_cases e : d.name = c.name
  · exact e
  · have : (d.name != c.name) = true := by simpa using e
    rw [this] at h; simp at h
theorem implies_void {d c : C} (h : impliesB d c = true) (hc : cvoidB c = true) : cvoidB d = true := by
  have hn := implies_name h
  have h7 : (c.op == 7) = false := by
    by_cases e : c.op = 7
    · unfold cvoidB at hc; rw [e] at hc; simp at hc
    · simpa using e
  cases hd : cvoidB d
  · unfold impliesB at h
    rw [hn, hd, h7, hc] at h
    simp at h
  · rfl
theorem match_sound {d c : C} {l : List A} (d0 : 0 ≤ d.op ∧ d.op ≤ 7) (c0 : 0 ≤ c.op ∧ c.op ≤ 7) (h : impliesB d c = true) (hm : matchB d l = true) : matchB c l = true := by
  have hn := implies_name h
  unfold matchB at hm ⊢
  rw [← hn]
  simp only [Bool.and_eq_true] at hm ⊢
  exact ⟨hm.1, implies_sound d c _ d0.1 d0.2 c0.1 c0.2 h hm.2⟩
theorem void_match {c : C} {l : List A} (h : cvoidB c = true) : matchB c l = false := by
  unfold matchB
  rw [void_holds c _ h, Bool.and_false]
theorem void_not {sc es : List UInt8} {l : List C} {al : List A} (h : fVoid l = true) : fMatch sc l es al = false := by
  unfold fVoid at h
  obtain ⟨c, hc, hv⟩ := List.any_eq_true.1 h
  unfold fMatch
  have : l.all (fun c => matchB c al) = false := by
    rw [Bool.eq_false_iff]; intro ha
    have := List.all_eq_true.1 ha c hc
    rw [void_match hv] at this; cases this
  rw [this]; rfl
theorem covers_match {sf sg es : List UInt8} {f g : List C} {al : List A} (hf : ∀ c ∈ f, 0 ≤ c.op ∧ c.op ≤ 7) (hg : ∀ c ∈ g, 0 ≤ c.op ∧ c.op ≤ 7)
    (h : fCovers sf f sg g = true) (hm : fMatch sg g es al = true) : fMatch sf f es al = true := by
  cases hv : fVoid g
  · unfold fCovers at h
    rw [hv, Bool.false_or] at h
    unfold fMatch at hm ⊢
    simp only [Bool.and_eq_true, List.all_eq_true] at h hm ⊢
    refine ⟨fun c hc => ?_, Sc.under_trans hm.2 h.2⟩
    have := h.1 c hc
    unfold fSome at this
    obtain ⟨d, hd, hi⟩ := List.any_eq_true.1 this
    exact match_sound (hg d hd) (hf c hc) hi (hm.1 d hd)
  · rw [void_not hv] at hm; cases hm
theorem covers_trans {sa sb sc : List UInt8} {a b c : List C} (ha : ∀ x ∈ a, 0 ≤ x.op ∧ x.op ≤ 7) (hb : ∀ x ∈ b, 0 ≤ x.op ∧ x.op ≤ 7) (hc : ∀ x ∈ c, 0 ≤ x.op ∧ x.op ≤ 7)
    (h1 : fCovers sa a sb b = true) (h2 : fCovers sb b sc c = true) : fCovers sa a sc c = true := by
  cases hv : fVoid c
  rotate_left
  · unfold fCovers; rw [hv, Bool.true_or]
  unfold fCovers at h2
  rw [hv, Bool.false_or] at h2
  simp only [Bool.and_eq_true, List.all_eq_true] at h2
  have hvb : fVoid b = false := by
    rw [Bool.eq_false_iff]; intro h
    obtain ⟨x, hx, hxv⟩ := List.any_eq_true.1 h
    have := h2.1 x hx
    unfold fSome at this
    obtain ⟨d, hd, hi⟩ := List.any_eq_true.1 this
    have hdv := implies_void hi hxv
    have : fVoid c = true := List.any_eq_true.2 ⟨d, hd, hdv⟩
    rw [this] at hv; cases hv
  unfold fCovers at h1 ⊢
  rw [hvb, Bool.false_or] at h1
  rw [hv, Bool.false_or]
  simp only [Bool.and_eq_true, List.all_eq_true] at h1 ⊢
  refine ⟨fun x hx => ?_, Sc.under_trans h2.2 h1.2⟩
  have hs := h1.1 x hx
  unfold fSome at hs ⊢
  obtain ⟨d, hd, hi⟩ := List.any_eq_true.1 hs
  have hs2 := h2.1 d hd
  unfold fSome at hs2
  obtain ⟨e, he, hj⟩ := List.any_eq_true.1 hs2
  exact List.any_eq_true.2 ⟨e, he, implies_trans e d x (hc e he).1 (hc e he).2 (hb d hd).1 (hb d hd).2 (ha x hx).1 (ha x hx).2 hj hi⟩
theorem keep_match {c : C} {zs : List ByteArray} {l : List A} (hr : Rising l) (h : matchB c (keepB zs l) = true) : matchB c l = true := by
  rw [← want_match c (keepB_rising hr)] at h
  rw [← want_match c hr]
  unfold wantB at h ⊢
  obtain ⟨a, ha, hp⟩ := List.any_eq_true.1 h
  exact List.any_eq_true.2 ⟨a, (List.mem_filter.1 ha).1, hp⟩
theorem hides {sc es : List UInt8} {l : List C} {zs : List ByteArray} {al : List A} (hr : Rising al) (h : fMatch sc l es (keepB zs al) = true) : fMatch sc l es al = true := by
  unfold fMatch at h ⊢
  simp only [Bool.and_eq_true, List.all_eq_true] at h ⊢
  exact ⟨fun c hc => keep_match hr (h.1 c hc), h.2⟩
def rMatch (sc : List UInt8) (l : List C) (es : List UInt8) (al : List A) : Bool := Sc.underB es sc && l.all (fun c => wantB c al)
theorem rmatch_match {sc es : List UInt8} {l : List C} {al : List A} (hr : Rising al) : rMatch sc l es al = fMatch sc l es al := by
  unfold rMatch fMatch
  rw [Bool.and_comm]
  congr 1
  refine congrArg (fun f => l.all f) ?_
  funext c
  exact want_match c hr
/-- the attributes that the laws' events have -/
def okA (a : A) : Bool := rightL [a]
def evL (l : List A) : List A := ((newB l).filter okA).take 8
def evS (s : List UInt8) : List UInt8 := if Sc.rightB s then s else []
def evK (nb : List A) (k : Nat) : List A := ((nb.take k).filter okA).take 8
theorem evK_end (l : List A) : evK (newB l) (newB l).length = evL l := by unfold evK evL; rw [List.take_length]
theorem evK_len (nb : List A) (k : Nat) : (evK nb k).length ≤ 8 := by unfold evK; rw [List.length_take]; omega
theorem evK_full (nb : List A) (k : Nat) (h : k < nb.length) (h8 : ¬ (evK nb k).length < 8) : evK nb (k + 1) = evK nb k := by
  unfold evK at h8 ⊢
  rw [List.length_take] at h8
  rw [List.take_succ_eq_append_getElem h, List.filter_append, List.take_append_of_le_length (by omega)]
theorem evK_no (nb : List A) (k : Nat) (h : k < nb.length) (hk : okA nb[k] = false) : evK nb (k + 1) = evK nb k := by
  unfold evK
  rw [List.take_succ_eq_append_getElem h, List.filter_append]
  simp [hk]
theorem evK_yes (nb : List A) (k : Nat) (h : k < nb.length) (h8 : (evK nb k).length < 8) (hk : okA nb[k] = true) : evK nb (k + 1) = evK nb k ++ [nb[k]] := by
  unfold evK at h8 ⊢
  rw [List.length_take] at h8
  have hl : ((nb.take k).filter okA).length < 8 := by omega
  have hf : List.filter okA [nb[k]] = [nb[k]] := by simp [hk]
  rw [List.take_succ_eq_append_getElem h, List.filter_append, hf]
  generalize (nb.take k).filter okA = X at *
  have e1 : X.take 8 = X := List.take_of_length_le (by omega)
  rw [e1, List.take_of_length_le (by rw [List.length_append]; simp; omega)]
theorem evL_sub (l : List A) : (evL l).Sublist (newB l) := (List.take_sublist _ _).trans List.filter_sublist
theorem evL_rising (l : List A) : Rising (evL l) := (newB_rising l).sublist (evL_sub l)
theorem evL_num {l : List A} (h : ∀ x ∈ l, Open.AOk x) : NumOk (evL l) := fun a ha => newB_num h a ((evL_sub l).subset ha)
end Go.Proofs.Ytpbdgbejcdncgaa.Val
