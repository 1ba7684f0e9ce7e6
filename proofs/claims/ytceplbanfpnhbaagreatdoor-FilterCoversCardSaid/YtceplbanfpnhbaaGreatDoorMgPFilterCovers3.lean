/- MERGED BY A PROGRAM OF MINE (mg.py) out of my own texts, in their order: ScFn, FilFn, Sc, ScL, Fil, FPrint, Key, VInj, NormFn, Keep, TurnsFn, NormsFn, FilM, EvL, Fit07. -/
import Derived.Test.YtceplbanfpnhbaaGreatDoorMgPFilterCovers2
import Derived.Test.YtceplbanfpnhbaaGreatDoorNameFn
import Derived.Lib.Bytealg
import Derived.Lib.Strings
import Derived.Test.YtceplbanfpnhbaaGreatDoorRows
import Derived.Test.YtceplbanfpnhbaaGreatDoorName
import Derived.Test.YtceplbanfpnhbaaGreatDoorShelf
import Derived.WalkKit
import Derived.WalkSpells
import Derived.WalkLawsBesides
import Derived.Lib.Hide
import Derived.Lib.PathFns
import Derived.Deep.Draws
import Derived.Test.YtceplbanfpnhbaaGreatDoorCondFit
import Derived.Test.YtceplbanfpnhbaaGreatDoorPrint

section
/- PLAIN FUNCTIONS ON TEXTS: names, what stands between the /, scopes, what is below a scope. No program in sight. -/
namespace Go.Proofs.YtceplbanfpnhbaaGreatDoor.Sc

/-- what stands between the / -/
def parts : List UInt8 → List (List UInt8)
  | [] => [[]]
  | b :: r => if b = 47 then [] :: parts r else
    match parts r with
    | [] => [[b]]
    | p :: q => (b :: p) :: q
theorem parts_ne (l : List UInt8) : parts l ≠ [] := by
  cases l with
  | nil => simp [parts]
  | cons b r =>
    unfold parts; split
    · simp
    · split <;> simp
theorem parts_cons {c : UInt8} {r p : List UInt8} {q : List (List UInt8)} (hc : ¬ c = 47) (h : parts r = p :: q) : parts (c :: r) = (c :: p) :: q := by
  rw [parts, if_neg hc, h]
theorem parts_slash (a b : List UInt8) (h : 47 ∉ a) : parts (a ++ 47 :: b) = a :: parts b := by
  induction a with
  | nil => simp [parts]
  | cons c a ih =>
    have hc : ¬ c = 47 := fun e => h (by simp [e])
    have ih := ih (fun m => h (by simp [m]))
    rw [List.cons_append]; exact parts_cons hc ih
theorem parts_none (a : List UInt8) (h : 47 ∉ a) : parts a = [a] := by
  induction a with
  | nil => simp [parts]
  | cons c a ih =>
    have hc : ¬ c = 47 := fun e => h (by simp [e])
    have ih := ih (fun m => h (by simp [m]))
    exact parts_cons hc ih
theorem parts_length (l : List UInt8) : (parts l).length ≤ l.length + 1 := by
  induction l with
  | nil => simp [parts]
  | cons b r ih =>
    unfold parts; split
    · simp; omega
    · split <;> simp_all; omega

/-- the first / -/
theorem slash_cases (l : List UInt8) : (Lib.indexByte l 47 = -1 ∧ 47 ∉ l) ∨
    (∃ a b, l = a ++ 47 :: b ∧ 47 ∉ a ∧ Lib.indexByte l 47 = a.length) := by
  induction l with
  | nil => left; simp [Lib.indexByte]
  | cons c r ih =>
    by_cases hc : c = 47
    · right; exact ⟨[], r, by simp [hc], by simp, by simp [Lib.indexByte, hc]⟩
    · have h1 : (c == (47 : UInt8)) = false := by simp [hc]
      rcases ih with ⟨e, hn⟩ | ⟨a, b, e, hn, hi⟩
      · left; refine ⟨?_, by simp [hn]; exact fun h => hc h.symm⟩
        unfold Lib.indexByte; rw [h1, e]; rfl
      · right
        refine ⟨c :: a, b, by simp [e], by simp [hn]; exact fun h => hc h.symm, ?_⟩
        have h2 : ((a.length : Int) == -1) = false := by rw [beq_eq_false_iff_ne]; omega
        unfold Lib.indexByte; rw [h1, hi, h2]; simp

/-- may it be a scope? -/
def rightB (l : List UInt8) : Bool := l.isEmpty || ((parts l).all nameB && decide ((parts l).length ≤ 4))
/-- is it the other one, or below it? -/
def underB (s t : List UInt8) : Bool := t.isEmpty || s == t || (t.isPrefixOf s && (s.drop t.length).head? == some 47)
theorem under_cases (a b : List UInt8) : (b.isEmpty = true) ∨ (b.isEmpty = false ∧ a = b) ∨
    (b.isEmpty = false ∧ (a == b) = false ∧ Lib.hasPrefix a b = false ∧ underB a b = false) ∨
    (∃ x r, b.isEmpty = false ∧ a = b ++ x :: r ∧ (a == b) = false ∧ Lib.hasPrefix a b = true ∧ underB a b = (x == 47)) := by
  cases h0 : b.isEmpty
  · by_cases h1 : a = b
    · exact Or.inr (Or.inl ⟨rfl, h1⟩)
    · have h1' : (a == b) = false := by simpa using h1
      cases h2 : Lib.hasPrefix a b
      · refine Or.inr (Or.inr (Or.inl ⟨rfl, h1', rfl, ?_⟩))
        unfold underB; rw [h0, h1']; unfold Lib.hasPrefix at h2; rw [h2]; rfl
      · have h3 : b <+: a := by unfold Lib.hasPrefix at h2; exact List.isPrefixOf_iff_prefix.1 h2
        obtain ⟨t, rfl⟩ := h3
        cases t with
        | nil => simp at h1
        | cons x r =>
          refine Or.inr (Or.inr (Or.inr ⟨x, r, rfl, rfl, h1', rfl, ?_⟩))
          unfold underB; unfold Lib.hasPrefix at h2
          rw [h0, h1', h2]
          simp
  · exact Or.inl rfl
theorem under_iff (a b : List UInt8) : underB a b = true ↔ b = [] ∨ a = b ∨ ∃ r, a = b ++ 47 :: r := by
  rcases under_cases a b with h | ⟨h0, rfl⟩ | ⟨h0, h1, h2, h3⟩ | ⟨x, r, h0, rfl, h1, h2, h3⟩
  · have e : b = [] := by cases b <;> simp_all
    subst e; simp [underB]
  · simp [underB]
  · rw [h3]; simp only [Bool.false_eq_true, false_iff]
    have h0' : ¬ b = [] := by cases b <;> simp_all
    have h1' : ¬ a = b := by simpa using h1
    rintro (h | h | ⟨r, rfl⟩)
    · exact h0' h
    · exact h1' h
    · unfold Lib.hasPrefix at h2
      have : b.isPrefixOf (b ++ 47 :: r) = true := List.isPrefixOf_iff_prefix.2 ⟨_, rfl⟩
      rw [this] at h2; cases h2
  · rw [h3]
    have h0' : ¬ b = [] := by cases b <;> simp_all
    have e1 : (b ++ x :: r = b) = False := by simp
    simp [h0', e1]
theorem under_trans {a b c : List UInt8} (h1 : underB a b = true) (h2 : underB b c = true) : underB a c = true := by
  rw [under_iff] at h1 h2 ⊢
  rcases h2 with rfl | rfl | ⟨t, rfl⟩
  · exact Or.inl rfl
  · exact h1
  · rcases h1 with h | rfl | ⟨r, rfl⟩
    · simp at h
    · exact Or.inr (Or.inr ⟨t, rfl⟩)
    · exact Or.inr (Or.inr ⟨t ++ 47 :: r, by simp⟩)
end Go.Proofs.YtceplbanfpnhbaaGreatDoor.Sc
end

section
/- PLAIN LAW OF FILTERS: what covers what, what does; the attributes of the laws' events. No walk. -/
namespace Go.Proofs.YtceplbanfpnhbaaGreatDoor.Val
open Flt
def fRight (sc : List UInt8) (l : List C) : Bool := l.all cRight && (Sc.rightB sc && decide (l.length ≤ 6))
def fVoid (l : List C) : Bool := l.any cvoidB
def fMatch (sc : List UInt8) (l : List C) (es : List UInt8) (al : List A) : Bool := l.all (fun c => matchB c al) && Sc.underB es sc
def fSome (c : C) (m : List C) : Bool := m.any (fun d => impliesB d c)
def fCovers (sc : List UInt8) (l : List C) (sd : List UInt8) (m : List C) : Bool := fVoid m || (l.all (fun c => fSome c m) && Sc.underB sd sc)
theorem cright_op7 {c : C} (h : cRight c = true) : 0 ≤ c.op ∧ c.op ≤ 7 := by
  unfold cRight at h; simp at h; exact ⟨h.1.1.2, h.1.2⟩
theorem fright_op {sc : List UInt8} {l : List C} (h : fRight sc l = true) : ∀ c ∈ l, 0 ≤ c.op ∧ c.op ≤ 7 := by
  unfold fRight at h
  simp only [Bool.and_eq_true, List.all_eq_true] at h
  exact fun c hc => cright_op7 (h.1 c hc)
theorem implies_name {d c : C} (h : impliesB d c = true) : d.name = c.name := by
  unfold impliesB at h
  by_cases e : d.name = c.name
  · exact e
  · have : (d.name != c.name) = true := by simpa using e
    rw [this] at h; simp at h
theorem implies_void {d c : C} (h : impliesB d c = true) (hc : cvoidB c = true) : cvoidB d = true := by
  have hn := implies_name h
  have h7 : (c.op == 7) = false := by
    by_cases e : c.op = 7
    · unfold cvoidB at hc; rw [e] at hc; simp at hc
    · simpa using e
  cases hd : cvoidB d
  · unfold impliesB at h
    rw [hn, hd, h7, hc] at h
    simp at h
  · rfl
theorem match_sound {d c : C} {l : List A} (d0 : 0 ≤ d.op ∧ d.op ≤ 7) (c0 : 0 ≤ c.op ∧ c.op ≤ 7) (h : impliesB d c = true) (hm : matchB d l = true) : matchB c l = true := by
  have hn := implies_name h
  unfold matchB at hm ⊢
  rw [← hn]
  simp only [Bool.and_eq_true] at hm ⊢
  exact ⟨hm.1, implies_sound d c _ d0.1 d0.2 c0.1 c0.2 h hm.2⟩
theorem void_match {c : C} {l : List A} (h : cvoidB c = true) : matchB c l = false := by
  unfold matchB
  rw [void_holds c _ h, Bool.and_false]
theorem void_not {sc es : List UInt8} {l : List C} {al : List A} (h : fVoid l = true) : fMatch sc l es al = false := by
  unfold fVoid at h
  obtain ⟨c, hc, hv⟩ := List.any_eq_true.1 h
  unfold fMatch
  have : l.all (fun c => matchB c al) = false := by
    rw [Bool.eq_false_iff]; intro ha
    have := List.all_eq_true.1 ha c hc
    rw [void_match hv] at this; cases this
  rw [this]; rfl
theorem covers_match {sf sg es : List UInt8} {f g : List C} {al : List A} (hf : ∀ c ∈ f, 0 ≤ c.op ∧ c.op ≤ 7) (hg : ∀ c ∈ g, 0 ≤ c.op ∧ c.op ≤ 7)
    (h : fCovers sf f sg g = true) (hm : fMatch sg g es al = true) : fMatch sf f es al = true := by
  cases hv : fVoid g
  · unfold fCovers at h
    rw [hv, Bool.false_or] at h
    unfold fMatch at hm ⊢
    simp only [Bool.and_eq_true, List.all_eq_true] at h hm ⊢
    refine ⟨fun c hc => ?_, Sc.under_trans hm.2 h.2⟩
    have := h.1 c hc
    unfold fSome at this
    obtain ⟨d, hd, hi⟩ := List.any_eq_true.1 this
    exact match_sound (hg d hd) (hf c hc) hi (hm.1 d hd)
  · rw [void_not hv] at hm; cases hm
theorem covers_trans {sa sb sc : List UInt8} {a b c : List C} (ha : ∀ x ∈ a, 0 ≤ x.op ∧ x.op ≤ 7) (hb : ∀ x ∈ b, 0 ≤ x.op ∧ x.op ≤ 7) (hc : ∀ x ∈ c, 0 ≤ x.op ∧ x.op ≤ 7)
    (h1 : fCovers sa a sb b = true) (h2 : fCovers sb b sc c = true) : fCovers sa a sc c = true := by
  cases hv : fVoid c
  rotate_left
  · unfold fCovers; rw [hv, Bool.true_or]
  unfold fCovers at h2
  rw [hv, Bool.false_or] at h2
  simp only [Bool.and_eq_true, List.all_eq_true] at h2
  have hvb : fVoid b = false := by
    rw [Bool.eq_false_iff]; intro h
    obtain ⟨x, hx, hxv⟩ := List.any_eq_true.1 h
    have := h2.1 x hx
    unfold fSome at this
    obtain ⟨d, hd, hi⟩ := List.any_eq_true.1 this
    have hdv := implies_void hi hxv
    have : fVoid c = true := List.any_eq_true.2 ⟨d, hd, hdv⟩
    rw [this] at hv; cases hv
  unfold fCovers at h1 ⊢
  rw [hvb, Bool.false_or] at h1
  rw [hv, Bool.false_or]
  simp only [Bool.and_eq_true, List.all_eq_true] at h1 ⊢
  refine ⟨fun x hx => ?_, Sc.under_trans h2.2 h1.2⟩
  have hs := h1.1 x hx
  unfold fSome at hs ⊢
  obtain ⟨d, hd, hi⟩ := List.any_eq_true.1 hs
  have hs2 := h2.1 d hd
  unfold fSome at hs2
  obtain ⟨e, he, hj⟩ := List.any_eq_true.1 hs2
  exact List.any_eq_true.2 ⟨e, he, implies_trans e d x (hc e he).1 (hc e he).2 (hb d hd).1 (hb d hd).2 (ha x hx).1 (ha x hx).2 hj hi⟩
/-- the attributes that the laws' events have -/
def okA (a : A) : Bool := rightL [a]
def evL (l : List A) : List A := ((newB l).filter okA).take 8
def evS (s : List UInt8) : List UInt8 := if Sc.rightB s then s else []
def evK (nb : List A) (k : Nat) : List A := ((nb.take k).filter okA).take 8
theorem evK_end (l : List A) : evK (newB l) (newB l).length = evL l := by unfold evK evL; rw [List.take_length]
theorem evK_len (nb : List A) (k : Nat) : (evK nb k).length ≤ 8 := by unfold evK; rw [List.length_take]; omega
theorem evK_full (nb : List A) (k : Nat) (h : k < nb.length) (h8 : ¬ (evK nb k).length < 8) : evK nb (k + 1) = evK nb k := by
  unfold evK at h8 ⊢
  rw [List.length_take] at h8
  rw [List.take_succ_eq_append_getElem h, List.filter_append, List.take_append_of_le_length (by omega)]
theorem evK_no (nb : List A) (k : Nat) (h : k < nb.length) (hk : okA nb[k] = false) : evK nb (k + 1) = evK nb k := by
  unfold evK
  rw [List.take_succ_eq_append_getElem h, List.filter_append]
  simp [hk]
theorem evK_yes (nb : List A) (k : Nat) (h : k < nb.length) (h8 : (evK nb k).length < 8) (hk : okA nb[k] = true) : evK nb (k + 1) = evK nb k ++ [nb[k]] := by
  unfold evK at h8 ⊢
  rw [List.length_take] at h8
  have hl : ((nb.take k).filter okA).length < 8 := by omega
  have hf : List.filter okA [nb[k]] = [nb[k]] := by simp [hk]
  rw [List.take_succ_eq_append_getElem h, List.filter_append, hf]
  generalize (nb.take k).filter okA = X at *
  have e1 : X.take 8 = X := List.take_of_length_le (by omega)
  rw [e1, List.take_of_length_le (by rw [List.length_append]; simp; omega)]
end Go.Proofs.YtceplbanfpnhbaaGreatDoor.Val
end

section
/- THE WALKS OF event.Name, strings.Cut at a /, scope.Right, scope.Under: each gives its plain function; the world stays as it was, but for draws. -/
namespace Go.Proofs.YtceplbanfpnhbaaGreatDoor.Sc
open Go.RowKit

/-- nothing but draws -/
def Drawn (w w' : World) : Prop := ∃ n, w' = w.drewN n
theorem Drawn.refl (w : World) : Drawn w w := ⟨0, rfl⟩
theorem Drawn.trans {a b c : World} (h : Drawn a b) (k : Drawn b c) : Drawn a c := by
  obtain ⟨n, rfl⟩ := h; obtain ⟨m, rfl⟩ := k; exact ⟨n + m, by simp [World.drewN, Nat.add_assoc]⟩
theorem Drawn.drew {a b : World} (h : Drawn a b) : Drawn a b.drew := h.trans ⟨1, rfl⟩
theorem Drawn.below {a b : World} (h : Drawn a b) (B : Nat) : Below B a b := by
  obtain ⟨n, rfl⟩ := h; exact ⟨rfl, rfl, rfl, Nat.le_refl _, fun _ _ => rfl⟩
/-- a text by its letters -/
theorem of_data {s : ByteArray} {l : List UInt8} (h : s.data.toList = l) : s = ⟨l.toArray⟩ := by
  subst h; rfl
theorem cutAt_hit (a b : List UInt8) : (⟨(a ++ 47 :: b).toArray⟩ : ByteArray).extract 0 a.length = ⟨a.toArray⟩ ∧ (⟨(a ++ 47 :: b).toArray⟩ : ByteArray).extract (a.length + 1) (⟨(a ++ 47 :: b).toArray⟩ : ByteArray).size = ⟨b.toArray⟩ := by
  constructor
  · apply of_data; rw [Lib.Pa.extract_upto_list]; simp
  · apply of_data; rw [Lib.extract_to_end]; simp
set_option maxHeartbeats 400000 in
theorem lcut_miss (s : ByteArray) (w : World) (hi : Lib.indexByte s.data.toList 47 = -1) :
    Calls Tryz.prog 115 #[.string s, .string ⟨#[47]⟩] w fun e w' => e = .returned (.tuple #[.string s, .string ⟨#[]⟩, .bool false]) ∧ w = w' := by
  go_enter Tryz.func115, Tryz.ntmps115
  go_wp2_with (go_at_call 148; refine (Tryz.stringslite_Index_one _ _ _).mono ?_; rintro e w' ⟨rfl, rfl⟩)
  go_ret3
  exact ⟨rfl, rfl⟩
set_option maxHeartbeats 400000 in
theorem lcut_hit (s : ByteArray) (i : Nat) (w : World) (hs : s.size ≤ maxLen) (hi : Lib.indexByte s.data.toList 47 = i) (hlt : i < s.size) :
    Calls Tryz.prog 115 #[.string s, .string ⟨#[47]⟩] w fun e w' => e = .returned (.tuple #[.string (s.extract 0 i), .string (s.extract (i + 1) s.size), .bool true]) ∧ Drawn w w' := by
  unfold maxLen at hs
  have c1 : (0 : Int) ≤ ↑i := by omega
  have c2 : (↑i : Int) ≤ ↑s.size := by omega
  have c3 : (0 : Int) ≤ ↑i + 1 := by omega
  have c4 : (↑i + 1 : Int) ≤ ↑s.size := by omega
  go_enter Tryz.func115, Tryz.ntmps115
  go_wp2_with (go_at_call 148; refine (Tryz.stringslite_Index_one _ _ _).mono ?_; rintro e w' ⟨rfl, rfl⟩)
  go_region
  all_goals
    go_wp2
    go_ret3
    exact ⟨rfl, 1, rfl⟩

set_option maxHeartbeats 400000 in
theorem cut_none (l : List UInt8) (w : World) (h : 47 ∉ l) :
    Calls Tryz.prog 85 #[.string ⟨l.toArray⟩, .string ⟨#[47]⟩] w fun e w' => e = .returned (.tuple #[.string ⟨l.toArray⟩, .string ⟨#[]⟩, .bool false]) ∧ Drawn w w' := by
  have hi : Lib.indexByte (⟨l.toArray⟩ : ByteArray).data.toList 47 = -1 := by
    rcases slash_cases l with ⟨h1, _⟩ | ⟨a, b, e, _, _⟩
    · exact h1
    · exact absurd (by rw [e]; simp) h
  have HI := Lib.hid hi; clear hi h
  go_enter Tryz.func85, Tryz.ntmps85
  go_wp2_with (go_at_call 115; refine (lcut_miss _ _ HI.out).mono ?_; rintro e w' ⟨rfl, rfl⟩)
  go_ret3
  exact ⟨rfl, Drawn.refl _⟩
set_option maxHeartbeats 400000 in
theorem cut_some (a b : List UInt8) (w : World) (h : 47 ∉ a) (hs : a.length + b.length + 1 ≤ maxLen) :
    Calls Tryz.prog 85 #[.string ⟨(a ++ 47 :: b).toArray⟩, .string ⟨#[47]⟩] w fun e w' => e = .returned (.tuple #[.string ⟨a.toArray⟩, .string ⟨b.toArray⟩, .bool true]) ∧ Drawn w w' := by
  have hz : (⟨(a ++ 47 :: b).toArray⟩ : ByteArray).size = a.length + b.length + 1 := by
    show (a ++ 47 :: b).toArray.size = _
    simp; omega
  have hi : Lib.indexByte (⟨(a ++ 47 :: b).toArray⟩ : ByteArray).data.toList 47 = a.length := by
    rcases slash_cases (a ++ 47 :: b) with ⟨_, h1⟩ | ⟨a', b', e, h2, h3⟩
    · exact absurd (by simp) h1
    · have : a = a' := by
        have e1 := parts_slash a b h
        rw [e, parts_slash a' b' h2] at e1
        exact (List.cons.inj e1).1.symm
      subst this; exact h3
  have hc := lcut_hit ⟨(a ++ 47 :: b).toArray⟩ a.length w (by rw [hz]; exact hs) hi (by rw [hz]; omega)
  rw [(cutAt_hit a b).1, (cutAt_hit a b).2] at hc
  have HC := Lib.hid hc; clear hc hi hz h hs
  go_enter Tryz.func85, Tryz.ntmps85
  go_wp2_with fail
  refine HC.out.mono ?_
  rintro e w' ⟨rfl, hq⟩
  go_wp2
  go_ret3
  exact ⟨rfl, hq⟩

def RightRel (l : List UInt8) (w : World) (n r m : Value) (wr : World) : Prop :=
  ∃ (done : List (List UInt8)) (rest : List UInt8) (more : Bool), n = .int .i64 done.length ∧ r = .string ⟨rest.toArray⟩ ∧ m = .bool more ∧ Drawn w wr ∧
    done.all nameB = true ∧ parts l = done ++ (if more then parts rest else []) ∧ rest.length ≤ l.length
def rightMeas (r m : Value) : Nat := match r, m with
  | .string s, .bool true => s.size + 1
  | _, _ => 0
set_option maxHeartbeats 1000000 in
theorem right_any (s : ByteArray) (w : World) (hs : s.size ≤ maxLen) (hs2 : s.size < 4611686018427387904) :
    Calls Tryz.prog 49 #[.string s] w fun e w' => e = .returned (.bool (rightB s.data.toList)) ∧ Drawn w w' := by
  unfold maxLen at hs
  obtain ⟨l, rfl⟩ : ∃ l : List UInt8, s = ⟨l.toArray⟩ := ⟨s.data.toList, rfl⟩
  by_cases h0 : l = []
  · subst h0
    go_enter Tryz.func49, Tryz.ntmps49
    go_wp2
    go_ret
    exact ⟨rfl, Drawn.refl _⟩
  · have h0' : l.isEmpty = false := by cases l <;> simp_all
    go_enter Tryz.func49, Tryz.ntmps49
    go_wp2
    go_loopw [3, 4, 5] (fun n r m wr => RightRel l w n r m wr) (fun _ r m _ => rightMeas r m)
    case atStart => exact ⟨[], l, true, rfl, rfl, rfl, Drawn.refl _, rfl, rfl, Nat.le_refl _⟩
    case round =>
      obtain ⟨done, rest, more, rfl, rfl, rfl, hq, hall, hp, hlen⟩ := hrel
      have HP := Lib.hid hp; have HA := Lib.hid hall; clear hp hall
      have hlz : (⟨l.toArray⟩ : ByteArray).size = l.length := rfl
      have hdl : (done.length : Int) ≤ 4611686018427387905 := by
        have h1 := parts_length l
        rw [HP.out, List.length_append] at h1
        omega
      have HLZ := Lib.hid hlz; clear hlz
      cases more
      · have hp : parts l = done := by rw [HP.out]; simp
        have hr : rightB l = decide (done.length ≤ 4) := by
          unfold rightB; rw [h0', hp, HA.out]; simp
        have HR := Lib.hid hr; clear hr hp HP
        go_wp2
        go_ret
        exact ⟨ret_bool (by rw [HR.out, Bool.eq_iff_iff]; simp; omega), hq⟩
      · rcases slash_cases rest with ⟨_, hn⟩ | ⟨a, b, rfl, hn, _⟩
        · have hb : (⟨rest.toArray⟩ : ByteArray).size ≤ maxLen := by
            unfold maxLen; rw [HLZ.out] at hs; show rest.length ≤ _; omega
          have HB := Lib.hid hb; clear hb
          have hp : parts l = done ++ [rest] := by rw [HP.out]; simp [parts_none rest hn]
          have HP2 := Lib.hid hp; clear hp HP
          cases hnm : nameB rest
          all_goals
            go_wp2_with (first | (go_at_call 85; refine (cut_none _ _ hn).mono ?_; rintro e w' ⟨rfl, hq1⟩) | (go_at_call 86; refine (name_any _ _ HB.out).mono ?_; rintro e w' ⟨rfl, rfl⟩))
          · go_ret
            exact ⟨ret_bool (by unfold rightB; rw [HP2.out, h0']; simp [hnm]), hq.trans hq1⟩
          · exact ⟨⟨done ++ [rest], [], false, by simp, rfl, rfl, hq.trans hq1, by simp [HA.out, hnm], by simp [HP2.out], Nat.zero_le _⟩, by show 0 < _; simp [rightMeas]⟩
        · have hlen' : a.length + (b.length + 1) ≤ l.length := by simpa using hlen
          have hb : (⟨a.toArray⟩ : ByteArray).size ≤ maxLen := by
            unfold maxLen; rw [HLZ.out] at hs; show a.length ≤ _; omega
          have hb2 : a.length + b.length + 1 ≤ maxLen := by
            unfold maxLen; rw [HLZ.out] at hs; omega
          have HB := Lib.hid hb; have HB2 := Lib.hid hb2; clear hb hb2
          have hp : parts l = done ++ a :: parts b := by rw [HP.out]; simp [parts_slash a b hn]
          have HP2 := Lib.hid hp; clear hp HP
          cases hnm : nameB a
          all_goals
            go_wp2_with (first | (go_at_call 85; refine (cut_some _ _ _ hn HB2.out).mono ?_; rintro e w' ⟨rfl, hq1⟩) | (go_at_call 86; refine (name_any _ _ HB.out).mono ?_; rintro e w' ⟨rfl, rfl⟩))
          · go_ret
            exact ⟨ret_bool (by unfold rightB; rw [HP2.out, h0']; simp [hnm]), hq.trans hq1⟩
          · exact ⟨⟨done ++ [a], b, true, by simp, rfl, rfl, hq.trans hq1, by simp [HA.out, hnm], by simp [HP2.out], by omega⟩, by show b.length + 1 < (a ++ 47 :: b).length + 1; simp; omega⟩

theorem beq47 (x : UInt8) : ((x.toNat : Int) == 47) = (x == 47) := by
  rw [Bool.eq_iff_iff, beq_iff_eq, beq_iff_eq]
  constructor
  · intro h; apply UInt8.toNat_inj.1; show x.toNat = 47; omega
  · intro h; subst h; rfl
set_option maxHeartbeats 400000 in
theorem under_any (a b : List UInt8) (w : World) (hs : a.length ≤ maxLen) (ht : b.length ≤ maxLen) :
    Calls Tryz.prog 53 #[.string ⟨a.toArray⟩, .string ⟨b.toArray⟩] w fun e w' => e = .returned (.bool (underB a b)) ∧ w = w' := by
  unfold maxLen at hs ht
  rcases under_cases a b with h0 | ⟨h0, rfl⟩ | ⟨h0, h1, h2, h3⟩ | ⟨x, r, h0, rfl, h1, h2, h3⟩
  · go_enter Tryz.func53, Tryz.ntmps53
    go_wp2
    go_ret
    exact ⟨ret_bool (by unfold underB; rw [h0]; rfl), rfl⟩
  · go_enter Tryz.func53, Tryz.ntmps53
    go_wp2
    go_ret
    exact ⟨ret_bool (by unfold underB; simp), rfl⟩
  · have h1' : ¬ a = b := by simpa using h1
    rw [h3]; clear h3
    go_enter Tryz.func53, Tryz.ntmps53
    go_wp2_with (go_at_call 70; refine (Tryz.strings_HasPrefix _ _ _).mono ?_; rintro e w' ⟨rfl, rfl⟩)
    go_ret
    exact ⟨rfl, rfl⟩
  · have h1' : ¬ b ++ x :: r = b := by simp
    have hl : b.length < (b ++ x :: r).length := by simp
    have hx : ((⟨(b ++ x :: r).toArray⟩ : ByteArray)[b.length]'hl) = x := by
      show (b ++ x :: r).toArray[b.length] = x
      simp
    rw [h3]; clear h3
    have HX := Lib.hid hx; clear hx
    go_enter Tryz.func53, Tryz.ntmps53
    go_wp2_with (go_at_call 70; refine (Tryz.strings_HasPrefix _ _ _).mono ?_; rintro e w' ⟨rfl, rfl⟩)
    go_ret
    exact ⟨ret_bool (by rw [HX.out, beq47]), rfl⟩
end Go.Proofs.YtceplbanfpnhbaaGreatDoor.Sc
end

section
/- THE CONTRACTS OF scope.Right and scope.Under, at lists. -/
namespace Go.Proofs.YtceplbanfpnhbaaGreatDoor.Sc
open Go.RowKit
theorem right_l (x : List UInt8) (w : World) (h : x.length ≤ 140737488351232) :
    Calls Tryz.prog 49 #[.string ⟨x.toArray⟩] w fun e w' => e = .returned (.bool (rightB x)) ∧ Drawn w w' :=
  right_any ⟨x.toArray⟩ w (by show x.length ≤ _; unfold maxLen; omega) (by show x.length < _; omega)
theorem under_l (a b : List UInt8) (w : World) (h : a.length ≤ 140737488351232) (h2 : b.length ≤ 140737488351232) :
    Calls Tryz.prog 53 #[.string ⟨a.toArray⟩, .string ⟨b.toArray⟩] w fun e w' => e = .returned (.bool (underB a b)) ∧ w = w' :=
  under_any a b w (by unfold maxLen; omega) (by unfold maxLen; omega)
end Go.Proofs.YtceplbanfpnhbaaGreatDoor.Sc
end

section
/- THE WALKS OF package filter: ContainsFunc at conditions, Void, Match, Right, Covers. -/
namespace Go.Proofs.YtceplbanfpnhbaaGreatDoor.Val
open Go.RowKit Flt
attribute [local go_sem] run_store_flt
theorem any_take_succ (p : C → Bool) (l : List C) (k : Nat) (h : k < l.length) : (l.take (k + 1)).any p = ((l.take k).any p || p l[k]) := by
  rw [List.take_succ_eq_append_getElem h]; simp only [List.any_append, List.any_cons, List.any_nil, Bool.or_false]
theorem any_hit (p : C → Bool) (l : List C) (k : Nat) (h : k < l.length) (hk : p l[k] = true) : l.any p = true := List.any_eq_true.2 ⟨_, List.getElem_mem h, hk⟩
theorem all_take_succ' (p : C → Bool) (l : List C) (k : Nat) (h : k < l.length) : (l.take (k + 1)).all p = ((l.take k).all p && p l[k]) := by
  rw [List.take_succ_eq_append_getElem h]; simp only [List.all_append, List.all_cons, List.all_nil, Bool.and_true]
theorem all_miss (p : C → Bool) (l : List C) (k : Nat) (h : k < l.length) (hk : p l[k] = false) : l.all p = false := by
  rw [Bool.eq_false_iff]; intro ha
  have := List.all_eq_true.1 ha l[k] (List.getElem_mem h)
  rw [hk] at this; cases this
set_option maxHeartbeats 1000000 in
theorem indexf_any (g : Nat) (eg : ∀ args w, (callFunc g args).run Tryz.prog w = .ok (.enter g args) w) (lb : Array Value) (p : C → Bool) (a0 : Option Addr) (cap : Nat) (l : List C) (w : World) (hl : Conds w a0 l) (hlm : l.length ≤ 1000000)
    (hp : ∀ W, Below w.heap.size w W → ∀ c ∈ l, Calls Tryz.prog g (#[cc c] ++ lb) W fun e w' => e = .returned (.bool (p c)) ∧ Below W.heap.size W w') :
    Calls Tryz.prog 87 #[.slice a0 l.length cap, .func (.func g) #[] lb] w fun e w' =>
      (∃ i : Int, e = .returned (.int .i64 i) ∧ decide (0 ≤ i) = l.any p) ∧ Below w.heap.size w w' := by
  have HL := Lib.hid hl; have HP := Lib.hid hp; clear hl hp
  go_enter Tryz.func87, Tryz.ntmps87
  go_wp2_with fail
  go_loopg [5, 8] l.length (fun gg _ vi wr => ∃ k : Nat, k ≤ l.length ∧ l.length - k ≤ gg ∧ vi = .int .i64 k ∧ Hid ((l.take k).any p = false) ∧ Below w.heap.size w wr)
  case atStart => exact ⟨0, Nat.zero_le _, by omega, rfl, Lib.hid rfl, Below.refl _ _⟩
  case round =>
    obtain ⟨k, hk, hgk, rfl, HA, hbr⟩ := hrel
    by_cases hlt : k < l.length
    · have i1 : (k : Int) < (l.length : Int) := by omega
      have i0 : (0 : Int) ≤ (k : Int) := by omega
      have hcall := HP.out wr hbr l[k] (List.getElem_mem hlt)
      have hst := any_take_succ p l k hlt
      have hhit := any_hit p l k hlt
      obtain ⟨a, rfl, v0, v1, v2, v3, v4, v5, v6⟩ := (HL.out.below hbr) k hlt
      have HST := Lib.hid hst; have HHIT := Lib.hid hhit
      clear hst hhit
      cases hq : p l[k] with
      | true =>
        rw [hq] at hcall
        have HQ := Lib.hid hq; clear hq
        go_wp2_with (go_at_fn g; refine hcall.mono ?_; rintro e w' ⟨rfl, hb'⟩)
        go_ret
        exact ⟨⟨_, rfl, by rw [HHIT.out HQ.out]; simp⟩, btrans hbr hb'⟩
      | false =>
        rw [hq] at hcall
        have HQ := Lib.hid hq; clear hq
        go_wp2_with (go_at_fn g; refine hcall.mono ?_; rintro e w' ⟨rfl, hb'⟩)
        go_roundg (l.length - (k + 1))
        case measure => omega
        case rel => exact ⟨k + 1, by omega, by omega, by go_num, Lib.hid (by rw [HST.out, HA.out, HQ.out]; rfl), btrans hbr hb'⟩
    · obtain rfl : k = l.length := by omega
      have hA := HA.out
      rw [List.take_length] at hA
      have HB := Lib.hid hA; clear hA
      go_wp2
      go_ret
      exact ⟨⟨_, rfl, by rw [HB.out]; rfl⟩, hbr⟩
theorem containsf_any (g : Nat) (eg : ∀ args w, (callFunc g args).run Tryz.prog w = .ok (.enter g args) w) (lb : Array Value) (p : C → Bool) (a0 : Option Addr) (cap : Nat) (l : List C) (w : World) (hl : Conds w a0 l) (hlm : l.length ≤ 1000000)
    (hp : ∀ W, Below w.heap.size w W → ∀ c ∈ l, Calls Tryz.prog g (#[cc c] ++ lb) W fun e w' => e = .returned (.bool (p c)) ∧ Below W.heap.size W w') :
    Calls Tryz.prog 51 #[.slice a0 l.length cap, .func (.func g) #[] lb] w fun e w' => e = .returned (.bool (l.any p)) ∧ Below w.heap.size w w' := by
  have hi := indexf_any g eg lb p a0 cap l w hl hlm hp
  have HI := Lib.hid hi; clear hi hp hl
  generalize l.any p = R at *
  go_enter Tryz.func51, Tryz.ntmps51
  go_wp2_with (go_at_call 87; refine HI.out.mono ?_; rintro e w2 ⟨⟨i, rfl, hR⟩, hb1⟩)
  go_ret
  exact ⟨rfl, by repeat (first | assumption | (with_reducible exact Below.refl _ _) | exact balloc _ _ | exact balloc2 _ _ _ | refine btrans ?_ (by assumption) | refine btrans ?_ (balloc _ _))⟩
theorem enters_void (args : Array Value) (w : World) : (callFunc 68 args).run Tryz.prog w = .ok (.enter 68 args) w := enters_of Tryz.func68 (by kernel_rfl) rfl args w
theorem enters_covers1 (args : Array Value) (w : World) : (callFunc 52 args).run Tryz.prog w = .ok (.enter 52 args) w := enters_of Tryz.func52 (by kernel_rfl) rfl args w
theorem fvoid_any (sc : List UInt8) (a0 : Option Addr) (cap : Nat) (l : List C) (w : World) (hl : Conds w a0 l) (hlm : l.length ≤ 1000000) :
    Calls Tryz.prog 33 #[ev sc a0 l.length cap] w fun e w' => e = .returned (.bool (fVoid l)) ∧ Below w.heap.size w w' := by
  have hc (W : World) (h : Conds W a0 l) : Calls Tryz.prog 51 #[.slice a0 l.length cap, .func (.func 68) #[] #[]] W fun e w' => e = .returned (.bool (fVoid l)) ∧ Below W.heap.size W w' :=
    containsf_any _ enters_void #[] cvoidB a0 cap l W h hlm (fun V hV c hc => cvoid_any c.name c.op c.val.kind c.val.int c.val.num c.val.text c.val.yes V)
  have HC := Lib.hid hc; have HL := Lib.hid hl; clear hc hl
  generalize fVoid l = R at *
  go_enter Tryz.func33, Tryz.ntmps33
  go_wp2_with (go_at_call 51; refine (HC.out _ (HL.out.below (by repeat (first | assumption | (with_reducible exact Below.refl _ _) | exact balloc _ _ | exact balloc2 _ _ _ | refine btrans ?_ (by assumption) | refine btrans ?_ (balloc _ _))))).mono ?_; rintro e w2 ⟨rfl, hb1⟩)
  go_ret
  exact ⟨rfl, by repeat (first | assumption | (with_reducible exact Below.refl _ _) | exact balloc _ _ | exact balloc2 _ _ _ | refine btrans ?_ (by assumption) | refine btrans ?_ (balloc _ _))⟩
set_option maxHeartbeats 1000000 in
theorem covers1_any (d c : C) (b : Nat) (w : World) (hb : CAt w ⟨b, 0, none⟩ c) (d0 : 0 ≤ d.op ∧ d.op ≤ 7) (hx1 : d.val.num < 18446744073709551616) (hx2 : c.val.num < 18446744073709551616) :
    Calls Tryz.prog 52 #[cc d, .pointer (some ⟨b, 0, none⟩)] w fun e w' => e = .returned (.bool (impliesB d c)) ∧ Below w.heap.size w w' := by
  have hi (W : World) := implies_any d.name d.op d.val.kind d.val.int d.val.num d.val.text d.val.yes c.name c.op c.val.kind c.val.int c.val.num c.val.text c.val.yes W d0.1 d0.2 hx1 hx2
  have he : impliesB ⟨d.name, d.op, d.val.kind, d.val.int, d.val.num, d.val.text, d.val.yes⟩ ⟨c.name, c.op, c.val.kind, c.val.int, c.val.num, c.val.text, c.val.yes⟩ = impliesB d c := rfl
  rw [he] at hi
  obtain ⟨v0, v1, v2, v3, v4, v5, v6⟩ := hb
  have hlt := World.block_lt_of_cell? _ _ v0
  have HI := Lib.hid hi; clear hi he d0 hx1 hx2
  generalize impliesB d c = R at *
  go_enter Tryz.func52, Tryz.ntmps52
  go_wp2_with (go_at_call 35; refine (HI.out _).mono ?_; rintro e w2 ⟨rfl, hb1⟩)
  go_ret
  exact ⟨rfl, by repeat (first | assumption | (with_reducible exact Below.refl _ _) | exact balloc _ _ | exact balloc2 _ _ _ | refine btrans ?_ (by assumption) | refine btrans ?_ (balloc _ _))⟩
/-- two boxes of two cells each, laid one behind the other -/
def Box2 (w : World) (b : Nat) (s : List UInt8) (a0 : Option Addr) (n cap : Nat) : Prop := w.cell? ⟨b, 0, none⟩ = some (.string ⟨s.toArray⟩) ∧ w.cell? ⟨b, 1, none⟩ = some (.slice a0 n cap)
theorem Box2.below {w w2 : World} {b : Nat} {s : List UInt8} {a0 : Option Addr} {n cap : Nat} (h : Box2 w b s a0 n cap) (hb : Below w.heap.size w w2) : Box2 w2 b s a0 n cap :=
  ⟨(hb.cell (World.block_lt_of_cell? _ _ h.1)).trans h.1, (hb.cell (World.block_lt_of_cell? _ _ h.2)).trans h.2⟩
theorem box2_new (w : World) (s : List UInt8) (a0 : Option Addr) (n cap : Nat) (T : TypeId) : Box2 (w.alloc (.cells #[.string ⟨s.toArray⟩, .slice a0 n cap] T)) w.heap.size s a0 n cap := by
  have c : ∀ o, (w.alloc (.cells #[.string ⟨s.toArray⟩, .slice a0 n cap] T)).cell? ⟨w.heap.size, o, none⟩ = #[.string ⟨s.toArray⟩, .slice a0 n cap][o]? := fun o => World.cell?_alloc_at _ _ _ _ rfl
  exact ⟨c 0, c 1⟩
theorem Box2.lt {w : World} {b : Nat} {s : List UInt8} {a0 : Option Addr} {n cap : Nat} (h : Box2 w b s a0 n cap) : b < w.heap.size := World.block_lt_of_cell? _ _ h.1
end Go.Proofs.YtceplbanfpnhbaaGreatDoor.Val
end

section
/- THE WALK OF filter.Print, over whatever cond.Print writes. -/
namespace Go.Proofs.YtceplbanfpnhbaaGreatDoor.Val
open Go.RowKit Flt
attribute [local go_sem] run_store_flt
def fprK (sc : List UInt8) (l : List C) (pr : C → List UInt8) : Nat → List UInt8
  | 0 => sc ++ [58]
  | k + 1 => (fprK sc l pr k ++ (if k = 0 then [] else [32, 38])) ++ ([32] ++ pr l[k]!)
theorem fprK_len (sc : List UInt8) (l : List C) (pr : C → List UInt8) (B : Nat) (k : Nat) (h : ∀ i, i < k → (pr l[i]!).length ≤ B) : (fprK sc l pr k).length ≤ sc.length + 1 + k * (B + 3) := by
  induction k with
  | zero => simp [fprK]
  | succ k ih =>
    have h1 := ih (fun i hi => h i (by omega))
    have h2 := h k (by omega)
    unfold fprK
    simp only [List.length_append, List.length_cons, List.length_nil]
    have h3 : (if k = 0 then ([] : List UInt8) else [32, 38]).length ≤ 2 := by split <;> simp
    rw [Nat.succ_mul]
    omega
set_option maxHeartbeats 2000000 in
theorem fprint_any (sf : List UInt8) (a0 : Option Addr) (cap : Nat) (l : List C) (pr : C → List UInt8) (w : World) (hw : Words w) (hl : Conds w a0 l) (hlm : l.length ≤ 20) (hsf : sf.length ≤ 1000000) (hpl : ∀ c ∈ l, (pr c).length ≤ 100000)
    (hp : ∀ c ∈ l, ∀ W, Words W → Below w.heap.size w W → Calls Tryz.prog 34 #[cc c] W fun e w' => e = .returned (.string ⟨(pr c).toArray⟩) ∧ Below W.heap.size W w') :
    Calls Tryz.prog 32 #[ev sf a0 l.length cap] w fun e w' => e = .returned (.string ⟨(fprK sf l pr l.length).toArray⟩) ∧ Below w.heap.size w w' := by
  have hfl (k : Nat) (h : k ≤ l.length) : (fprK sf l pr k).length ≤ 3000100 := by
    have := fprK_len sf l pr 100000 k (fun i hi => by
      rw [getElem!_pos l i (by omega)]; exact hpl _ (List.getElem_mem _))
    have h2 : k * 100003 ≤ 20 * 100003 := Nat.mul_le_mul_right _ (by omega)
    omega
  have h0 : fprK sf l pr 0 = sf ++ [58] := rfl
  have hst (k : Nat) (h : k < l.length) : fprK sf l pr (k + 1) = (fprK sf l pr k ++ (if k = 0 then [] else [32, 38])) ++ ([32] ++ pr l[k]) := by
    conv => lhs; unfold fprK
    rw [getElem!_pos l k h]
  have HL := Lib.hid hl; have HP := Lib.hid hp; have HW := Lib.hid hw; have HFL := Lib.hid hfl; have HST := Lib.hid hst; have HPL := Lib.hid hpl
  clear hl hp hw hfl hst hpl
  generalize hF : fprK sf l pr = F at *
  have r1 : ∀ w, (Op.stringOp .add ⟨sf.toArray⟩ ⟨#[58]⟩).run Tryz.prog w = .ok (.string ⟨(F 0).toArray⟩) w := fun w => by rw [h0]; exact run_string_add_lists w sf [58] (by omega) (by simp)
  clear hF h0
  go_enter Tryz.func32, Tryz.ntmps32
  go_wp2_with fail
  have hx1 := box2_new w sf a0 l.length cap 24
  have hbw := balloc w (.cells #[.string ⟨sf.toArray⟩, .slice a0 l.length cap] 24)
  have HX1 := Lib.hid hx1; have HBW := Lib.hid hbw
  clear hx1 hbw r1
  generalize w.alloc _ = W0 at *
  go_loopw [3, 12] (fun vs vi wr => ∃ k : Nat, k ≤ l.length ∧ vs = .string ⟨(F k).toArray⟩ ∧ vi = .int .i64 k ∧ Below W0.heap.size W0 wr) (fun _ vi _ => l.length - (intOf vi).toNat)
  case atStart => exact ⟨0, Nat.zero_le _, rfl, rfl, Below.refl _ _⟩
  case round =>
    obtain ⟨k, hk, rfl, rfl, hbr⟩ := hrel
    have hbz := btrans HBW.out hbr
    have HBZ := Lib.hid hbz; have HBR := Lib.hid hbr
    clear hbz hbr
    by_cases hlt : k < l.length
    · have i1 : (k : Int) < (l.length : Int) := by omega
      have i0 : (0 : Int) ≤ (k : Int) := by omega
      have hl1 := HFL.out k hk
      have hl2 := HPL.out _ (List.getElem_mem hlt)
      have hs := HST.out k hlt
      obtain ⟨a, rfl, v0, v1, v2, v3, v4, v5, v6⟩ := (HL.out.below HBZ.out) k hlt
      have hpc := HP.out _ (List.getElem_mem hlt)
      generalize hT : F (k + 1) = T at *
      have HT := Lib.hid hT; clear hT
      generalize F k = S at *
      generalize pr l[k] = p at *
      have HPC := Lib.hid hpc
      clear hpc
      obtain ⟨y1, hy1⟩ : ∃ y, y = [32] ++ p := ⟨_, rfl⟩
      have r1 : ∀ w, (Op.stringOp .add ⟨#[32]⟩ ⟨p.toArray⟩).run Tryz.prog w = .ok (.string ⟨y1.toArray⟩) w := fun w => by rw [hy1]; exact run_string_add_lists w [32] p (by simp) (by omega)
      have l1 : y1.length = p.length + 1 := by rw [hy1]; simp
      rw [← hy1] at hs
      by_cases hk0 : k = 0
      · rw [if_pos hk0, List.append_nil] at hs
        have k0 : ¬ (0 : Int) < (k : Int) := by omega
        clear hk0
        have r2 : ∀ w, (Op.stringOp .add ⟨S.toArray⟩ ⟨y1.toArray⟩).run Tryz.prog w = .ok (.string ⟨T.toArray⟩) w := fun w => by rw [hs]; exact run_string_add_lists w S y1 (by omega) (by omega)
        clear hy1 hs l1
        go_wp2_with (go_at_call 34; refine (HPC.out _ ((HW.out.below HBZ.out).below (balloc _ _)) (btrans HBZ.out (balloc _ _))).mono ?_; rintro e w5 ⟨rfl, hb5⟩)
        exact ⟨⟨k + 1, by omega, by rw [HT.out], by go_num, btrans (btrans HBR.out (balloc _ _)) hb5⟩, by simp [intOf]; go_num⟩
      · rw [if_neg hk0] at hs
        have k0 : (0 : Int) < (k : Int) := by omega
        obtain ⟨y2, hy2⟩ : ∃ y, y = S ++ [32, 38] := ⟨_, rfl⟩
        have r2 : ∀ w, (Op.stringOp .add ⟨S.toArray⟩ ⟨#[32, 38]⟩).run Tryz.prog w = .ok (.string ⟨y2.toArray⟩) w := fun w => by rw [hy2]; exact run_string_add_lists w S [32, 38] (by omega) (by simp)
        have l2 : y2.length = S.length + 2 := by rw [hy2]; simp
        rw [← hy2] at hs
        have r3 : ∀ w, (Op.stringOp .add ⟨y2.toArray⟩ ⟨y1.toArray⟩).run Tryz.prog w = .ok (.string ⟨T.toArray⟩) w := fun w => by rw [hs]; exact run_string_add_lists w y2 y1 (by omega) (by omega)
        clear hy1 hy2 hs l1 l2
        go_wp2_with (go_at_call 34; refine (HPC.out _ ((HW.out.below HBZ.out).below (balloc _ _)) (btrans HBZ.out (balloc _ _))).mono ?_; rintro e w5 ⟨rfl, hb5⟩)
        exact ⟨⟨k + 1, by omega, by rw [HT.out], by go_num, btrans (btrans HBR.out (balloc _ _)) hb5⟩, by simp [intOf]; go_num⟩
    · obtain rfl : k = l.length := by omega
      go_wp2
      go_ret
      exact ⟨rfl, HBZ.out⟩
end Go.Proofs.YtceplbanfpnhbaaGreatDoor.Val
end

section
/- THE WALK OF filter.Key. -/
namespace Go.Proofs.YtceplbanfpnhbaaGreatDoor.Val
open Go.RowKit Flt
theorem keepC_mem (S : List C) : ∀ k, k ≤ S.length → ∀ c ∈ keepC S k, c ∈ S
  | 0, _, c, h => by cases h
  | k + 1, hk, c, h => by
    rw [keepC] at h
    rcases List.mem_append.1 h with h | h
    · exact keepC_mem S k (by omega) c h
    · split at h
      · cases h
      · rw [List.mem_singleton, getElem!_pos S k (by omega)] at h
        rw [h]; exact List.getElem_mem _
theorem normL_mem (L : List C) : ∀ c ∈ normL L, ∃ d ∈ L, c = canonC d := fun c hc => by
  have h1 : (L.map canonC).length = L.length := List.length_map ..
  have h := keepC_mem _ _ (by unfold sortC; rw [isort_len, h1]; exact Nat.le_refl _) c hc
  cases L with
  | nil => cases h
  | cons a l =>
    have h2 := isort_mem _ _ (by rw [h1]; simp) c h
    obtain ⟨d, hd, e⟩ := List.mem_map.1 h2
    exact ⟨d, hd, e.symm⟩
theorem normL_len (L : List C) : (normL L).length ≤ L.length := keepC_len _ _
/-- a filter's key -/
def keyT (sf : List UInt8) (L : List C) : List UInt8 := fprK sf (normL L) cT (normL L).length
set_option maxRecDepth 20000 in
set_option maxHeartbeats 1000000 in
theorem key_any (sf : List UInt8) (a0 : Option Addr) (cap : Nat) (L : List C) (w : World) (hl : Conds w a0 L) (hlm : L.length ≤ 19) (hw : Words w) (hT : Tab.Tabs w) (hs : ∀ c ∈ L, CSmall c ∧ 0 ≤ c.op ∧ c.op ≤ 7) (hsf : sf.length ≤ 1000000) :
    Calls Tryz.prog 18 #[ev sf a0 L.length cap] w fun e w' => e = .returned (.string ⟨(keyT sf L).toArray⟩) ∧ Below w.heap.size w w' := by
  have hn : ∀ W, Below w.heap.size w W → Calls Tryz.prog 31 #[ev sf a0 L.length cap] W fun e w' => ∃ b0 cp, e = .returned (ev sf b0 (normL L).length cp) ∧ Conds w' b0 (normL L) ∧ Below W.heap.size W w' :=
    fun W hb => norm_any sf a0 cap L W (hl.below hb) hlm (hw.below hb) (hT.below hb (Nat.le_refl _)) hs
  have hm : ∀ c ∈ normL L, CSmall c ∧ 0 ≤ c.op ∧ c.op ≤ 7 := fun c hc => by
    obtain ⟨d, hd, rfl⟩ := normL_mem L c hc
    exact canon_small (hs d hd)
  have hp : ∀ b0 cp W, Conds W b0 (normL L) → Below w.heap.size w W → Calls Tryz.prog 32 #[ev sf b0 (normL L).length cp] W fun e w' => e = .returned (.string ⟨(keyT sf L).toArray⟩) ∧ Below W.heap.size W w' :=
    fun b0 cp W hc hb => fprint_any sf b0 cp (normL L) cT W (hw.below hb) hc (by have := normL_len L; omega) hsf (fun c hc2 => by
      obtain ⟨⟨q1, q2, q3, q4, q5⟩, _⟩ := hm c hc2
      have := vT_len c.val q4 q5
      have h3 := wordB_len c.op
      unfold cT hasT
      split
      · simp only [List.length_append, List.length_cons, List.length_nil]; omega
      · simp only [List.length_append, List.length_cons, List.length_nil]; omega) (fun c hc2 W2 hw2 hb2 => by
      obtain ⟨⟨q1, q2, q3, q4, q5⟩, _⟩ := hm c hc2
      exact cprint_any c.name c.op c.val.kind c.val.int c.val.num c.val.text c.val.yes W2 hw2 (hT.below (hb.trans (hb2.mono hb.size)) (Nat.le_refl _)) (by omega) (by omega) q3 q4 q5)
  have HN := Lib.hid hn; have HP := Lib.hid hp
  clear hn hp hm hl hw hT hs
  generalize keyT sf L = K at *
  generalize normL L = N at *
  go_enter Tryz.func18, Tryz.ntmps18
  go_wp2_with (first | (go_at_call 31; refine (HN.out _ (by first | exact Below.refl _ _ | exact balloc _ _)).mono ?_; rintro e w3 ⟨b0, cp, rfl, hc3, hb3⟩) | (go_at_call 32; refine (HP.out _ _ _ hc3 (by first | exact hb3 | exact btrans (balloc _ _) hb3)).mono ?_; rintro e w4 ⟨rfl, hb4⟩) | fail)
  go_ret
  exact ⟨rfl, by first | exact btrans hb3 hb4 | exact btrans (btrans (balloc _ _) hb3) hb4⟩
end Go.Proofs.YtceplbanfpnhbaaGreatDoor.Val
end

section
/- VALUES THAT ARE NOT THE SAME HAVE TEXTS THAT ARE NOT, whatever stands behind; those that are the same have one. No walk. -/
namespace Go.Proofs.YtceplbanfpnhbaaGreatDoor.Val
open Go.RowKit Flt
theorem nan_iff (b : Nat) : nan b = true ↔ 9218868437227405312 < b % 9223372036854775808 := by
  unfold nan rung inf
  rw [decide_eq_true_eq]
theorem zero_iff2 (b : Nat) : Ord.zero b = true ↔ b % 9223372036854775808 = 0 := by
  rw [Ord.zero_iff]
  unfold rung
  rw [decide_eq_true_eq]
/-- numbers with one key are kept alike, and others are not -/
theorem key_canon (a b : Nat) (ha : a < 18446744073709551616) (hb : b < 18446744073709551616) : Ord.key a = Ord.key b ↔ Ord.canon a = Ord.canon b := by
  unfold Ord.key Ord.canon Ord.most Ord.top Ord.nan0
  have na := nan_iff a; have nb := nan_iff b; have za := zero_iff2 a; have zb := zero_iff2 b
  cases h1 : nan a <;> cases h2 : nan b <;> cases h3 : Ord.zero a <;> cases h4 : Ord.zero b <;>
    rw [h1] at na <;> rw [h2] at nb <;> rw [h3] at za <;> rw [h4] at zb <;>
    simp only [Bool.false_eq_true, if_false, if_true] <;>
    (try split) <;> (try split) <;> simp at na nb za zb <;> omega
theorem canon_bits (x : Nat) (hx : x < 18446744073709551616) : Ord.canon x < 18446744073709551616 ∧
    ((Ord.canon x = 9221120237041090561) ∨ (Fmt.bexp (Ord.canon x) ≤ 2046) ∨ (Fmt.bexp (Ord.canon x) = 2047 ∧ Fmt.bman (Ord.canon x) = 0)) := by
  refine ⟨canon_lt x hx, ?_⟩
  have na := nan_iff x
  unfold Ord.canon Ord.nan0
  cases h1 : nan x
  · rw [h1] at na
    have : ¬ 9218868437227405312 < x % 9223372036854775808 := fun h => by have := na.2 h; cases this
    simp only [Bool.false_eq_true, if_false]
    split
    · right; left; decide
    · right
      unfold Fmt.bexp Fmt.bman
      omega
  · left; rfl
/-- a text without a blank and not quoted -/
def Bare (t : List UInt8) : Prop := t ≠ [] ∧ (∀ c ∈ t, c ≠ 32) ∧ ∀ r, t ≠ 34 :: r
/-- what may stand behind: nothing, or a blank first -/
def Tail (s : List UInt8) : Prop := s = [] ∨ ∃ r, s = 32 :: r
theorem bare_apart : ∀ (t u s r : List UInt8), (∀ c ∈ t, c ≠ 32) → (∀ c ∈ u, c ≠ 32) → Tail s → Tail r → t ++ s = u ++ r → t = u ∧ s = r
  | [], [], _, _, _, _, _, _, h => ⟨rfl, h⟩
  | [], c :: u, s, r, _, hu, hs, _, h => by
    exfalso
    rcases hs with rfl | ⟨q, rfl⟩
    · cases h
    · exact hu c (List.mem_cons_self ..) (List.cons.inj h).1.symm
  | c :: t, [], s, r, ht, _, _, hr, h => by
    exfalso
    rcases hr with rfl | ⟨q, rfl⟩
    · cases h
    · exact ht c (List.mem_cons_self ..) (List.cons.inj h).1
  | c :: t, d :: u, s, r, ht, hu, hs, hr, h => by
    obtain ⟨h1, h2⟩ := List.cons.inj h
    obtain ⟨i1, i2⟩ := bare_apart t u s r (fun x hx => ht x (List.mem_cons_of_mem _ hx)) (fun x hx => hu x (List.mem_cons_of_mem _ hx)) hs hr h2
    exact ⟨by rw [h1, i1], i2⟩
/-- a whole number's text: digits, a sign ahead -/
theorem itoa_chr (n : Int) : ∀ c ∈ Lib.itoa n, Fmt.IsD c ∨ c = 45 := by
  intro c hc
  unfold Lib.itoa at hc
  split at hc
  · rcases List.mem_cons.1 hc with rfl | hc
    · exact .inr rfl
    · exact .inl ((Fmt.decDigits_val _).2 c hc)
  · exact .inl ((Fmt.decDigits_val _).2 c hc)
theorem dec_ne (u : Nat) : Lib.decDigits u ≠ [] := by
  intro h
  have := Lib.decDigits_length u
  rw [h] at this
  have := Lib.nDigits_pos u
  simp at *
  omega
theorem itoa_ne (n : Int) : Lib.itoa n ≠ [] := by
  unfold Lib.itoa
  split
  · exact List.cons_ne_nil _ _
  · exact dec_ne _
theorem itoa_inj (n m : Int) (h : Lib.itoa n = Lib.itoa m) : n = m := by
  have dv := fun u => (Fmt.decDigits_val u).1
  have nod : ∀ u v, 45 :: Lib.decDigits u ≠ Lib.decDigits v := fun u v e => by
    have := (Fmt.decDigits_val v).2 45 (by rw [← e]; exact List.mem_cons_self ..)
    unfold Fmt.IsD at this
    simp at this
  unfold Lib.itoa at h
  split at h <;> split at h
  · have h2 := congrArg Fmt.dval (List.cons.inj h).2
    rw [dv, dv] at h2
    omega
  · exact absurd h (nod _ _)
  · exact absurd h.symm (nod _ _)
  · have h2 := congrArg Fmt.dval h
    rw [dv, dv] at h2
    omega
/-- what a number's text is, by its kind -/
theorem flt_ways (x : Nat) (hx : x < 18446744073709551616) :
    (Fmt.fltT (Ord.canon x) = [78, 97, 78] ∧ Ord.canon x = 9221120237041090561) ∨
    (Fmt.fltT (Ord.canon x) = [45, 73, 110, 102] ∧ Ord.canon x = 18442240474082181120) ∨ (Fmt.fltT (Ord.canon x) = [43, 73, 110, 102] ∧ Ord.canon x = 9218868437227405312) ∨
    (Fmt.bexp (Ord.canon x) ≤ 2046 ∧ ∃ X, Fmt.fltT (Ord.canon x) = Fmt.sgn (Fmt.bneg (Ord.canon x)) ++ X ∧ (∃ c r, X = c :: r ∧ Fmt.IsD c) ∧ ∀ c ∈ X, Fmt.IsN c) := by
  obtain ⟨hl, h⟩ := canon_bits x hx
  generalize Ord.canon x = b at *
  rcases h with rfl | h | ⟨h1, h2⟩
  · left
    exact ⟨Fmt.fltT_nan _ (by decide) (by decide), rfl⟩
  · right; right; right
    obtain ⟨X, hX⟩ := Fmt.body_fin b h
    exact ⟨h, X, hX.txt, hX.head, hX.chr⟩
  · have ht := Fmt.fltT_inf b h1 h2
    cases hn : Fmt.bneg b
    · right; right; left
      rw [hn] at ht
      refine ⟨ht, ?_⟩
      unfold Fmt.bneg at hn
      unfold Fmt.bexp at h1
      unfold Fmt.bman at h2
      simp at hn
      omega
    · right; left
      rw [hn] at ht
      refine ⟨ht, ?_⟩
      unfold Fmt.bneg at hn
      unfold Fmt.bexp at h1
      unfold Fmt.bman at h2
      simp at hn
      omega
theorem isN_ne {c : UInt8} (h : Fmt.IsN c) (k : UInt8) (hk : k.toNat < 43 ∨ (57 < k.toNat ∧ k.toNat ≠ 101)) : c ≠ k := by
  rintro rfl
  rcases h with h | h | h | h | h
  · unfold Fmt.IsD at h; omega
  all_goals (subst h; revert hk; decide)
theorem flt_bare (x : Nat) (hx : x < 18446744073709551616) : Bare (Fmt.fltT (Ord.canon x)) ∧ (∀ r, Fmt.fltT (Ord.canon x) ≠ 121 :: r) ∧ (∀ r, Fmt.fltT (Ord.canon x) ≠ 110 :: r) ∧ ∃ c ∈ Fmt.fltT (Ord.canon x), ¬ (Fmt.IsD c ∨ c = 45) := by
  have hmk : ∃ c ∈ Fmt.fltT (Ord.canon x), ¬ (Fmt.IsD c ∨ c = 45) := by
    have key : ∀ c : UInt8, c = 46 ∨ c = 101 ∨ c = 73 ∨ c = 78 → ¬ (Fmt.IsD c ∨ c = 45) := by
      intro c hc h
      rcases hc with rfl | rfl | rfl | rfl <;> rcases h with h | h <;> first | (unfold Fmt.IsD at h; simp at h) | (revert h; decide)
    unfold Fmt.fltT
    cases hm : Fmt.marked (Fmt.ftoaT (Ord.canon x))
    · simp only [Bool.false_eq_true, if_false]
      exact ⟨46, by simp, key 46 (.inl rfl)⟩
    · simp only [if_true]
      obtain ⟨c, hc, hk⟩ := (Fmt.marked_iff _).1 hm
      exact ⟨c, hc, key c hk⟩
  rcases flt_ways x hx with ⟨h, _⟩ | ⟨h, _⟩ | ⟨h, _⟩ | ⟨_, X, h, ⟨c, r, hX, hc⟩, hN⟩
  · refine ⟨⟨?_, ?_, ?_⟩, ?_, ?_, hmk⟩ <;> rw [h]
    · exact List.cons_ne_nil _ _
    · intro c hc; simp only [List.mem_cons, List.not_mem_nil, or_false] at hc; rcases hc with rfl | rfl | rfl <;> decide
    all_goals (intro r e; have := (List.cons.inj e).1; revert this; decide)
  · refine ⟨⟨?_, ?_, ?_⟩, ?_, ?_, hmk⟩ <;> rw [h]
    · exact List.cons_ne_nil _ _
    · intro c hc; simp only [List.mem_cons, List.not_mem_nil, or_false] at hc; rcases hc with rfl | rfl | rfl | rfl <;> decide
    all_goals (intro r e; have := (List.cons.inj e).1; revert this; decide)
  · refine ⟨⟨?_, ?_, ?_⟩, ?_, ?_, hmk⟩ <;> rw [h]
    · exact List.cons_ne_nil _ _
    · intro c hc; simp only [List.mem_cons, List.not_mem_nil, or_false] at hc; rcases hc with rfl | rfl | rfl | rfl <;> decide
    all_goals (intro r e; have := (List.cons.inj e).1; revert this; decide)
  · have hd : ∀ k : UInt8, k.toNat < 48 ∨ 57 < k.toNat → c ≠ k := fun k hk => Fmt.isD_ne hc k hk
    have hs : ∀ c ∈ Fmt.sgn (Fmt.bneg (Ord.canon x)), c = 45 := by
      intro c hc
      unfold Fmt.sgn at hc
      split at hc
      · exact List.mem_singleton.1 hc
      · cases hc
    have first : ∀ k : UInt8, k ≠ 45 → (k.toNat < 48 ∨ 57 < k.toNat) → ∀ r, Fmt.fltT (Ord.canon x) ≠ k :: r := by
      intro k h45 hk r e
      rw [h, hX] at e
      unfold Fmt.sgn at e
      split at e
      · exact h45 (List.cons.inj e).1.symm
      · exact hd k hk (List.cons.inj e).1
    refine ⟨⟨?_, ?_, first 34 (by decide) (by decide)⟩, first 121 (by decide) (by decide), first 110 (by decide) (by decide), hmk⟩
    · rw [h, hX]
      unfold Fmt.sgn
      split <;> exact List.cons_ne_nil _ _
    · intro d hd2
      rw [h] at hd2
      rcases List.mem_append.1 hd2 with hd2 | hd2
      · rw [hs d hd2]; decide
      · exact isN_ne (hN d hd2) 32 (by decide)
theorem flt_inj (x y : Nat) (hx : x < 18446744073709551616) (hy : y < 18446744073709551616) (h : Fmt.fltT (Ord.canon x) = Fmt.fltT (Ord.canon y)) : Ord.canon x = Ord.canon y := by
  have hd : ∀ {c : UInt8}, Fmt.IsD c → ∀ k : UInt8, k.toNat < 48 ∨ 57 < k.toNat → c ≠ k := fun hc k hk => Fmt.isD_ne hc k hk
  have fin : ∀ (b : Nat) (X : List UInt8) (c : UInt8) (r : List UInt8), X = c :: r → Fmt.IsD c → ∀ t, Fmt.fltT b = Fmt.sgn (Fmt.bneg b) ++ X → Fmt.fltT b = t → t ≠ [78, 97, 78] ∧ t ≠ [45, 73, 110, 102] ∧ t ≠ [43, 73, 110, 102] := by
    intro b X c r hX hc t ht e
    rw [ht, hX] at e
    unfold Fmt.sgn at e
    refine ⟨?_, ?_, ?_⟩ <;> rintro rfl <;> split at e
    · exact absurd (List.cons.inj e).1 (by decide)
    · exact hd hc 78 (by decide) (List.cons.inj e).1
    · exact hd hc 73 (by decide) (List.cons.inj (List.cons.inj e).2).1
    · exact hd hc 45 (by decide) (List.cons.inj e).1
    · exact absurd (List.cons.inj e).1 (by decide)
    · exact hd hc 43 (by decide) (List.cons.inj e).1
  rcases flt_ways x hx with ⟨h1, e1⟩ | ⟨h1, e1⟩ | ⟨h1, e1⟩ | ⟨f1, X, h1, ⟨c, r, hX, hc⟩, _⟩ <;>
    rcases flt_ways y hy with ⟨h2, e2⟩ | ⟨h2, e2⟩ | ⟨h2, e2⟩ | ⟨f2, Y, h2, ⟨d, q, hY, hd2⟩, _⟩
  · rw [e1, e2]
  · rw [h1, h2] at h; exact absurd h (by decide)
  · rw [h1, h2] at h; exact absurd h (by decide)
  · exact absurd h1 (fin _ Y d q hY hd2 _ h2 h.symm).1
  · rw [h1, h2] at h; exact absurd h (by decide)
  · rw [e1, e2]
  · rw [h1, h2] at h; exact absurd h (by decide)
  · exact absurd h1 (fin _ Y d q hY hd2 _ h2 h.symm).2.1
  · rw [h1, h2] at h; exact absurd h (by decide)
  · rw [h1, h2] at h; exact absurd h (by decide)
  · rw [e1, e2]
  · exact absurd h1 (fin _ Y d q hY hd2 _ h2 h.symm).2.2
  · exact absurd h2 (fin _ X c r hX hc _ h1 h).1
  · exact absurd h2 (fin _ X c r hX hc _ h1 h).2.1
  · exact absurd h2 (fin _ X c r hX hc _ h1 h).2.2
  · exact Fmt.fltT_fin _ _ (canon_lt x hx) (canon_lt y hy) f1 f2 h
/-- a value that may be -/
def VOk (v : V) : Prop := 0 ≤ v.kind ∧ v.kind ≤ 3 ∧ v.num < 18446744073709551616
theorem vT_ways (v : V) (h : VOk v) : (v.kind = 0 ∧ vT v = Lib.itoa v.int) ∨ (v.kind = 1 ∧ vT v = Fmt.fltT (Ord.canon v.num)) ∨ (v.kind = 2 ∧ vT v = Quo.quoteT Lib.goPrintTabs v.text) ∨ (v.kind = 3 ∧ vT v = if v.yes then yesT else noT) := by
  obtain ⟨k, n, x, t, y⟩ := v
  obtain ⟨h0, h3, _⟩ := h
  simp only at h0 h3
  rcases (show k = 0 ∨ k = 1 ∨ k = 2 ∨ k = 3 by omega) with rfl | rfl | rfl | rfl
  · exact .inl ⟨rfl, rfl⟩
  · exact .inr (.inl ⟨rfl, rfl⟩)
  · exact .inr (.inr (.inl ⟨rfl, rfl⟩))
  · exact .inr (.inr (.inr ⟨rfl, rfl⟩))
theorem itoa_bare (n : Int) : Bare (Lib.itoa n) ∧ (∀ r, Lib.itoa n ≠ 121 :: r) ∧ (∀ r, Lib.itoa n ≠ 110 :: r) := by
  have key : ∀ k : UInt8, k ≠ 45 → (k.toNat < 48 ∨ 57 < k.toNat) → ∀ c ∈ Lib.itoa n, c ≠ k := fun k h45 hk c hc => by
    rcases itoa_chr n c hc with h | h
    · exact Fmt.isD_ne h k hk
    · rw [h]; exact fun e => h45 e.symm
  have first : ∀ k : UInt8, k ≠ 45 → (k.toNat < 48 ∨ 57 < k.toNat) → ∀ r, Lib.itoa n ≠ k :: r := fun k h45 hk r e => key k h45 hk k (by rw [e]; exact List.mem_cons_self ..) rfl
  exact ⟨⟨itoa_ne n, key 32 (by decide) (by decide), first 34 (by decide) (by decide)⟩, first 121 (by decide) (by decide), first 110 (by decide) (by decide)⟩
theorem bool_bare (y : Bool) : Bare (if y then yesT else noT) ∧ ∃ c r, (if y then yesT else noT) = c :: r ∧ (c = 121 ∨ c = 110) := by
  cases y
  · refine ⟨⟨by decide, by decide, ?_⟩, 110, _, rfl, .inr rfl⟩
    intro r e; have := (List.cons.inj e).1; revert this; decide
  · refine ⟨⟨by decide, by decide, ?_⟩, 121, _, rfl, .inl rfl⟩
    intro r e; have := (List.cons.inj e).1; revert this; decide
/-- VALUES' TEXTS TELL THEM APART, whatever stands behind -/
theorem vT_apart (v u : V) (hv : VOk v) (hu : VOk u) (s r : List UInt8) (hs : Tail s) (hr : Tail r) (h : vT v ++ s = vT u ++ r) : sameB v u = true ∧ s = r := by
  have bb : ∀ t w : List UInt8, Bare t → Bare w → t ++ s = w ++ r → t = w ∧ s = r := fun t w ht hw e => bare_apart t w s r ht.2.1 hw.2.1 hs hr e
  have quo : ∀ (l : List UInt8) (w : List UInt8) (s r : List UInt8), Bare w → Quo.quoteT Lib.goPrintTabs l ++ s = w ++ r → False := by
    intro l w s r hw e
    obtain ⟨q, hq⟩ := Quo.quoteT_head Lib.goPrintTabs l
    cases w with
    | nil => exact hw.1 rfl
    | cons c w =>
      rw [hq] at e
      exact hw.2.2 w (by rw [(List.cons.inj e).1])
  rcases vT_ways v hv with ⟨k1, e1⟩ | ⟨k1, e1⟩ | ⟨k1, e1⟩ | ⟨k1, e1⟩ <;> rcases vT_ways u hu with ⟨k2, e2⟩ | ⟨k2, e2⟩ | ⟨k2, e2⟩ | ⟨k2, e2⟩ <;> rw [e1, e2] at h
  · obtain ⟨h1, h2⟩ := bb _ _ (itoa_bare _).1 (itoa_bare _).1 h
    refine ⟨?_, h2⟩
    have := itoa_inj _ _ h1
    unfold sameB; rw [k1, k2, this]; simp
  · exfalso
    obtain ⟨h1, _⟩ := bb _ _ (itoa_bare _).1 (flt_bare _ hu.2.2).1 h
    obtain ⟨c, hc, hn⟩ := (flt_bare _ hu.2.2).2.2.2
    exact hn (itoa_chr _ c (by rw [h1]; exact hc))
  · exact absurd h.symm (fun e => quo _ _ _ _ (itoa_bare _).1 e)
  · exfalso
    obtain ⟨h1, _⟩ := bb _ _ (itoa_bare _).1 (bool_bare _).1 h
    obtain ⟨c, q, e, hc⟩ := (bool_bare u.yes).2
    rw [e] at h1
    rcases hc with rfl | rfl
    · exact (itoa_bare _).2.1 _ h1
    · exact (itoa_bare _).2.2 _ h1
  · exfalso
    obtain ⟨h1, _⟩ := bb _ _ (flt_bare _ hv.2.2).1 (itoa_bare _).1 h
    obtain ⟨c, hc, hn⟩ := (flt_bare _ hv.2.2).2.2.2
    exact hn (itoa_chr _ c (by rw [← h1]; exact hc))
  · obtain ⟨h1, h2⟩ := bb _ _ (flt_bare _ hv.2.2).1 (flt_bare _ hu.2.2).1 h
    refine ⟨?_, h2⟩
    have := (key_canon _ _ hv.2.2 hu.2.2).2 (flt_inj _ _ hv.2.2 hu.2.2 h1)
    unfold sameB Ord.same; rw [k1, k2, this]; simp
  · exact absurd h.symm (fun e => quo _ _ _ _ (flt_bare _ hv.2.2).1 e)
  · exfalso
    obtain ⟨h1, _⟩ := bb _ _ (flt_bare _ hv.2.2).1 (bool_bare _).1 h
    obtain ⟨c, q, e, hc⟩ := (bool_bare u.yes).2
    rw [e] at h1
    rcases hc with rfl | rfl
    · exact (flt_bare _ hv.2.2).2.1 _ h1
    · exact (flt_bare _ hv.2.2).2.2.1 _ h1
  · exact absurd h (fun e => quo _ _ _ _ (itoa_bare _).1 e)
  · exact absurd h (fun e => quo _ _ _ _ (flt_bare _ hu.2.2).1 e)
  · obtain ⟨h1, h2⟩ := Quo.quoteT_apart _ _ _ _ _ h
    refine ⟨?_, h2⟩
    unfold sameB; rw [k1, k2, h1]; simp
  · exact absurd h (fun e => quo _ _ _ _ (bool_bare _).1 e)
  · exfalso
    obtain ⟨h1, _⟩ := bb _ _ (bool_bare _).1 (itoa_bare _).1 h
    obtain ⟨c, q, e, hc⟩ := (bool_bare v.yes).2
    rw [e] at h1
    rcases hc with rfl | rfl
    · exact (itoa_bare _).2.1 _ h1.symm
    · exact (itoa_bare _).2.2 _ h1.symm
  · exfalso
    obtain ⟨h1, _⟩ := bb _ _ (bool_bare _).1 (flt_bare _ hu.2.2).1 h
    obtain ⟨c, q, e, hc⟩ := (bool_bare v.yes).2
    rw [e] at h1
    rcases hc with rfl | rfl
    · exact (flt_bare _ hu.2.2).2.1 _ h1.symm
    · exact (flt_bare _ hu.2.2).2.2.1 _ h1.symm
  · exact absurd h.symm (fun e => quo _ _ _ _ (bool_bare _).1 e)
  · obtain ⟨h1, h2⟩ := bb _ _ (bool_bare _).1 (bool_bare _).1 h
    refine ⟨?_, h2⟩
    have : v.yes = u.yes := by
      cases hv2 : v.yes <;> cases hu2 : u.yes <;> rw [hv2, hu2] at h1 <;> first | rfl | (revert h1; decide)
    unfold sameB; rw [k1, k2, this]; simp
end Go.Proofs.YtceplbanfpnhbaaGreatDoor.Val
end

section
/- WHAT A FILTER IS BROUGHT TO: its conditions in order; the order in which they came, and doubles, play no part. No walk. -/
namespace Go.Proofs.YtceplbanfpnhbaaGreatDoor.Val
open Go.RowKit Flt
/-- into a row that falls -/
def insr : List C → C → List C
  | [], x => [x]
  | y :: Q, x => if cmpC x y < 0 then y :: insr Q x else x :: y :: Q
theorem insr_perm : ∀ (Q : List C) (x : C), List.Perm (insr Q x) (x :: Q)
  | [], x => List.Perm.refl _
  | y :: Q, x => by
    unfold insr
    split
    · exact ((insr_perm Q x).cons y).trans (List.Perm.swap x y Q)
    · exact List.Perm.refl _
theorem bub_insr : ∀ (Q : List C) (x : C) (R : List C), bub (Q.reverse ++ x :: R) Q.length = (insr Q x).reverse ++ R
  | [], x, R => rfl
  | y :: Q, x, R => by
    have hlen : ((y :: Q).reverse ++ x :: R).length = Q.length + 1 + 1 + R.length := by simp; omega
    have e : (y :: Q).reverse ++ x :: R = Q.reverse ++ y :: x :: R := by simp
    have g1 : (Q.reverse ++ y :: x :: R)[Q.length + 1]! = x := by
      rw [getElem!_pos _ _ (by simp)]
      rw [List.getElem_append_right (by simp)]
      simp
    have g0 : (Q.reverse ++ y :: x :: R)[Q.length]! = y := by
      rw [getElem!_pos _ _ (by simp)]
      rw [List.getElem_append_right (by simp)]
      simp
    rw [e, List.length_cons, bub, g1, g0]
    unfold insr
    split
    · have hs : swp (Q.reverse ++ y :: x :: R) Q.length = Q.reverse ++ x :: y :: R := by
        unfold swp
        rw [g1, g0]
        rw [List.set_append_right _ _ (by simp), List.set_append_right _ _ (by simp)]
        simp
      rw [hs, bub_insr Q x (y :: R)]
      simp
    · simp
theorem isort_insr (L : List C) : ∀ i, i < L.length → isort L i = ((L.take (i + 1)).foldl insr []).reverse ++ L.drop (i + 1)
  | 0, h => by
    cases L with
    | nil => simp at h
    | cons a l => simp [isort, insr]
  | i + 1, h => by
    rw [isort, isort_insr L i (by omega)]
    have hd : L.drop (i + 1) = L[i + 1] :: L.drop (i + 2) := List.drop_eq_getElem_cons h
    have hl : ((L.take (i + 1)).foldl insr []).length = i + 1 := by
      have : ∀ (l : List C) (acc : List C), (l.foldl insr acc).length = acc.length + l.length := by
        intro l
        induction l with
        | nil => intro acc; simp
        | cons a l ih => intro acc; rw [List.foldl_cons, ih, (insr_perm acc a).length_eq]; simp; omega
      rw [this, List.length_take]
      simp; omega
    rw [hd]
    have := bub_insr ((L.take (i + 1)).foldl insr []) L[i + 1] (L.drop (i + 2))
    rw [hl] at this
    rw [this, List.take_succ_eq_append_getElem h, List.foldl_append]
    rfl
theorem sortC_insr (L : List C) : sortC L = (L.foldl insr []).reverse := by
  unfold sortC
  cases L with
  | nil => rfl
  | cons a l =>
    rw [isort_insr _ _ (by simp)]
    have e : (a :: l).length - 1 + 1 = (a :: l).length := by simp
    rw [e, List.take_length, List.drop_length, List.append_nil]
/-- not behind -/
def leC (a b : C) : Prop := ¬ cmpC b a < 0
theorem leC_of_lt {a b : C} (h : cmpC a b < 0) : leC a b := fun h2 => by
  have := (cb_anti (cT a) (cT b)).1.1 h
  unfold cmpC at h2
  omega
theorem leC_trans {a b c : C} (h1 : leC a b) (h2 : leC b c) : leC a c := by
  unfold leC cmpC at *
  intro h
  rcases Int.lt_trichotomy (Lib.compareBytes (cT a) (cT b)) 0 with k | k | k
  · exact h2 (cb_trans h k)
  · have e : cT a = cT b := (cb_zero _ _).1 k
    rw [e] at h
    exact h2 h
  · exact h1 ((cb_anti (cT b) (cT a)).1.2 k)
theorem insr_falls : ∀ (Q : List C) (x : C), Q.Pairwise (fun a b => leC b a) → (insr Q x).Pairwise (fun a b => leC b a)
  | [], x, _ => by simp [insr]
  | y :: Q, x, h => by
    obtain ⟨h1, h2⟩ := List.pairwise_cons.1 h
    unfold insr
    split
    · rename_i hlt
      refine List.pairwise_cons.2 ⟨fun z hz => ?_, insr_falls Q x h2⟩
      rcases List.mem_cons.1 ((insr_perm Q x).subset hz) with rfl | hz
      · exact leC_of_lt hlt
      · exact h1 z hz
    · rename_i hge
      refine List.pairwise_cons.2 ⟨fun z hz => ?_, h⟩
      rcases List.mem_cons.1 hz with rfl | hz
      · exact hge
      · exact leC_trans (h1 z hz) hge
theorem foldl_falls : ∀ (l acc : List C), acc.Pairwise (fun a b => leC b a) → (l.foldl insr acc).Pairwise (fun a b => leC b a)
  | [], _, h => h
  | a :: l, acc, h => foldl_falls l _ (insr_falls acc a h)
theorem foldl_perm : ∀ (l acc : List C), List.Perm (l.foldl insr acc) (l ++ acc)
  | [], _ => List.Perm.refl _
  | a :: l, acc => (foldl_perm l (insr acc a)).trans (((insr_perm acc a).append_left l).trans (List.perm_middle))
theorem sortC_perm (L : List C) : List.Perm (sortC L) L := by
  rw [sortC_insr]
  have := foldl_perm L []
  rw [List.append_nil] at this
  exact (List.reverse_perm _).trans this
theorem sortC_rises (L : List C) : (sortC L).Pairwise leC := by
  rw [sortC_insr, List.pairwise_reverse]
  exact foldl_falls L [] List.Pairwise.nil
/-- a condition as it is kept, that may be -/
def CKept (c : C) : Prop := ∃ d : C, cRight d = true ∧ d.val.num < 18446744073709551616 ∧ c = canonC d
theorem word_no32 : ∀ n : Nat, n ≤ 7 → ∀ c ∈ wordL n, c ≠ 32 := by decide
theorem word_inj : ∀ n : Nat, n ≤ 6 → ∀ m : Nat, m ≤ 6 → wordL n = wordL m → n = m := by decide
theorem cut32 : ∀ (n m s t : List UInt8), (∀ c ∈ n, c ≠ 32) → (∀ c ∈ m, c ≠ 32) → n ++ 32 :: s = m ++ 32 :: t → n = m ∧ s = t := fun n m s t hn hm h => by
  have := bare_apart n m (32 :: s) (32 :: t) hn hm (.inr ⟨s, rfl⟩) (.inr ⟨t, rfl⟩) h
  exact ⟨this.1, (List.cons.inj this.2).2⟩
theorem canonV_same (a b : V) (ha : VOk a) (hb : VOk b) (h : sameB a b = true) : canonV a = canonV b := by
  unfold sameB at h
  rw [Bool.and_eq_true, beq_iff_eq] at h
  obtain ⟨hk, h⟩ := h
  obtain ⟨k, n, x, t, y⟩ := a
  obtain ⟨k2, n2, x2, t2, y2⟩ := b
  obtain ⟨h0, h3, hx⟩ := ha
  obtain ⟨_, _, hx2⟩ := hb
  simp only at hk h h0 h3 hx hx2
  subst hk
  rcases (show k = 0 ∨ k = 1 ∨ k = 2 ∨ k = 3 by omega) with rfl | rfl | rfl | rfl
  · have e : n = n2 := by simpa using h
    rw [e]; rfl
  · have e : Ord.key x = Ord.key x2 := by simpa [Ord.same] using h
    have := (key_canon x x2 hx hx2).1 e
    show (⟨1, 0, Ord.canon x, [], false⟩ : V) = ⟨1, 0, Ord.canon x2, [], false⟩
    rw [this]
  · have e : t = t2 := by simpa using h
    rw [e]; rfl
  · have e : y = y2 := by simpa using h
    rw [e]; rfl
theorem canon_again (x : Nat) : Ord.canon (Ord.canon x) = Ord.canon x := by
  unfold Ord.canon
  cases h : nan x
  · cases h2 : Ord.zero x
    · simp only [h, h2, Bool.false_eq_true, if_false]
    · simp only [Bool.false_eq_true, if_false, if_true]
      rw [if_neg (by decide), if_pos (by decide)]
  · simp only [if_true]
    rw [if_pos (by decide)]
theorem vT_kept (v : V) (h0 : 0 ≤ v.kind) (h3 : v.kind ≤ 3) : vT (canonV v) = vT v := by
  obtain ⟨k, n, x, t, y⟩ := v
  simp only at h0 h3
  rcases (show k = 0 ∨ k = 1 ∨ k = 2 ∨ k = 3 by omega) with rfl | rfl | rfl | rfl
  · rfl
  · show Fmt.fltT (Ord.canon (Ord.canon x)) = Fmt.fltT (Ord.canon x)
    rw [canon_again]
  · rfl
  · rfl
theorem cT_kept (c : C) (h0 : 0 ≤ c.val.kind) (h3 : c.val.kind ≤ 3) : cT (canonC c) = cT c := by
  obtain ⟨nm, op, v⟩ := c
  cases h7 : (op == 7)
  · have e : canonC ⟨nm, op, v⟩ = ⟨nm, op, canonV v⟩ := by unfold canonC; simp only [h7]; rfl
    rw [e]
    unfold cT
    simp only [h7, vT_kept v h0 h3]
  · have : op = 7 := by simpa using h7
    subst this
    rfl
theorem right_parts {c : C} (h : cRight c = true) : (∀ x ∈ c.name, x ≠ 32) ∧ 0 ≤ c.op ∧ c.op ≤ 7 ∧ 0 ≤ c.val.kind ∧ c.val.kind ≤ 3 := by
  unfold cRight vRight at h
  simp only [Bool.and_eq_true, decide_eq_true_eq] at h
  refine ⟨?_, h.1.1.2, h.1.2, h.2.1.1, h.2.1.2⟩
  have hn := h.1.1.1
  unfold Sc.nameB at hn
  simp only [Bool.and_eq_true] at hn
  have key : ∀ (l : List UInt8) (i : Nat), Sc.chsOk i l = true → ∀ x ∈ l, x ≠ 32 := by
    intro l
    induction l with
    | nil => intro _ _ x hx; cases hx
    | cons c l ih =>
      intro i h x hx
      rw [Sc.chsOk, Bool.and_eq_true] at h
      rcases List.mem_cons.1 hx with rfl | hx
      · have := h.1
        unfold Sc.chOk at this
        rintro rfl
        revert this
        simp
      · exact ih _ h.2 x hx
  exact key _ _ hn.1.1
/-- CONDITIONS THAT MAY BE, OF ONE TEXT, ARE KEPT ALIKE -/
theorem cT_inj (c d : C) (hc : cRight c = true) (hd : cRight d = true) (nc : c.val.num < 18446744073709551616) (nd : d.val.num < 18446744073709551616) (h : cT c = cT d) : canonC c = canonC d := by
  obtain ⟨c1, c2, c3, c4, c5⟩ := right_parts hc
  obtain ⟨d1, d2, d3, d4, d5⟩ := right_parts hd
  obtain ⟨nm, op, v⟩ := c
  obtain ⟨nm2, op2, v2⟩ := d
  simp only at *
  have hasE : ∀ n : List UInt8, hasT ++ n = [104, 97, 115] ++ 32 :: n := fun n => rfl
  have opE : ∀ (n : List UInt8) (o : Int) (w : V), n ++ [32] ++ wordB o ++ [32] ++ vT w = n ++ 32 :: (wordB o ++ 32 :: vT w) := fun n o w => by simp
  have wE : ∀ o : Int, 0 ≤ o → o ≤ 7 → wordB o = wordL o.toNat := fun o h1 h2 => by unfold wordB; rw [if_neg (by omega)]
  have h32 : ∀ x ∈ ([104, 97, 115] : List UInt8), x ≠ 32 := by decide
  unfold cT at h
  simp only at h
  cases o1 : (op == 7) <;> cases o2 : (op2 == 7) <;> simp only [o1, o2, Bool.false_eq_true, if_false, if_true] at h
  · have p1 : op ≠ 7 := by simpa using o1
    have p2 : op2 ≠ 7 := by simpa using o2
    rw [opE, opE] at h
    obtain ⟨e1, h2⟩ := cut32 _ _ _ _ c1 d1 h
    rw [wE op c2 c3, wE op2 d2 d3] at h2
    obtain ⟨e2, h3⟩ := cut32 _ _ _ _ (word_no32 _ (by omega)) (word_no32 _ (by omega)) h2
    have e3 := word_inj _ (by omega) _ (by omega) e2
    have e4 : op = op2 := by omega
    have h4 : vT v ++ [] = vT v2 ++ [] := by simpa using h3
    have e5 := (vT_apart v v2 ⟨c4, c5, nc⟩ ⟨d4, d5, nd⟩ [] [] (.inl rfl) (.inl rfl) h4).1
    have e6 := canonV_same v v2 ⟨c4, c5, nc⟩ ⟨d4, d5, nd⟩ e5
    unfold canonC
    simp only [o1, o2, Bool.false_eq_true, if_false]
    rw [e1, e4, e6]
  · exfalso
    rw [opE, hasE] at h
    obtain ⟨e1, h2⟩ := cut32 _ _ _ _ c1 h32 h
    exact d1 32 (by rw [← h2]; simp) rfl
  · exfalso
    rw [opE, hasE] at h
    obtain ⟨e1, h2⟩ := cut32 _ _ _ _ h32 d1 h
    exact c1 32 (by rw [h2]; simp) rfl
  · rw [hasE, hasE] at h
    obtain ⟨_, h2⟩ := cut32 _ _ _ _ h32 h32 h
    unfold canonC
    simp only [o1, o2, if_true]
    rw [h2]
theorem kept_inj {a b : C} (ha : CKept a) (hb : CKept b) (h : cT a = cT b) : a = b := by
  obtain ⟨c, c1, c2, rfl⟩ := ha
  obtain ⟨d, d1, d2, rfl⟩ := hb
  obtain ⟨_, _, _, k1, k2⟩ := right_parts c1
  obtain ⟨_, _, _, m1, m2⟩ := right_parts d1
  rw [cT_kept c k1 k2, cT_kept d m1 m2] at h
  exact cT_inj c d c1 d1 c2 d2 h
/-- a list of conditions that may be -/
def LOk (L : List C) : Prop := ∀ c ∈ L, cRight c = true ∧ c.val.num < 18446744073709551616
theorem LOk.kept {L : List C} (h : LOk L) : ∀ c ∈ L.map canonC, CKept c := fun c hc => by
  obtain ⟨d, hd, rfl⟩ := List.mem_map.1 hc
  exact ⟨d, (h d hd).1, (h d hd).2, rfl⟩
end Go.Proofs.YtceplbanfpnhbaaGreatDoor.Val
end

section
/- WHAT STAYS OF A ROW OF CONDITIONS: it hangs on which there are alone. No walk. -/
namespace Go.Proofs.YtceplbanfpnhbaaGreatDoor.Val
open Go.RowKit Flt
def ltC (a b : C) : Prop := cmpC a b < 0
theorem ltC_asymm {a b : C} (h : ltC a b) (h2 : ltC b a) : False := leC_of_lt h h2
/-- another one makes it needless -/
def Gone (S : List C) (x : C) : Prop := ∃ y ∈ S, y ≠ x ∧ impliesB y x = true ∧ (ltC y x ∨ impliesB x y = false)
theorem need_some (L : List C) (i : Nat) : ∀ n, needN L i n = true ↔ ∃ k, k < n ∧ hit L i k = true
  | 0 => by simp [needN]
  | n + 1 => by
    rw [needN, Bool.or_eq_true, need_some L i n]
    constructor
    · rintro (⟨k, hk, h⟩ | h)
      · exact ⟨k, by omega, h⟩
      · exact ⟨n, by omega, h⟩
    · rintro ⟨k, hk, h⟩
      by_cases e : k = n
      · subst e; exact .inr h
      · exact .inl ⟨k, by omega, h⟩
/-- a row in order, each as it is kept -/
structure Rise (S : List C) : Prop where
  le : S.Pairwise leC
  kept : ∀ c ∈ S, CKept c
  op : ∀ c ∈ S, 0 ≤ c.op ∧ c.op ≤ 7
theorem Rise.at {S : List C} (h : Rise S) {i k : Nat} (hi : i < S.length) (hk : k < S.length) (hki : k < i) : leC (S[k]'hk) (S[i]'hi) := List.pairwise_iff_getElem.1 h.le k i hk hi hki
theorem Rise.lt {S : List C} (h : Rise S) {a b : C} (ha : a ∈ S) (hb : b ∈ S) (hl : leC a b) (hne : a ≠ b) : ltC a b := by
  rcases Int.lt_trichotomy (cmpC a b) 0 with e | e | e
  · exact e
  · exact absurd (kept_inj (h.kept a ha) (h.kept b hb) ((cb_zero _ _).1 e)) hne
  · exact absurd ((cb_anti (cT b) (cT a)).1.2 e) hl
theorem need_iff {S : List C} (h : Rise S) (i : Nat) (hi : i < S.length) : needB S i = true ↔ (∃ k, ∃ hk : k < S.length, k < i ∧ S[k] = S[i]) ∨ Gone S S[i] := by
  unfold needB
  rw [need_some]
  have hself : ∀ x ∈ S, impliesB x x = true := fun x hx => implies_self x (h.op x hx).1 (h.op x hx).2
  constructor
  · rintro ⟨k, hk, hh⟩
    unfold hit at hh
    rw [getElem!_pos S k hk, getElem!_pos S i hi] at hh
    simp only [Bool.and_eq_true, Bool.or_eq_true, Bool.not_eq_true', decide_eq_true_eq, beq_eq_false_iff_ne] at hh
    obtain ⟨hne, himp, hor⟩ := hh
    by_cases e : S[k] = S[i]
    · rcases hor with h1 | h1
      · exact .inl ⟨k, hk, h1, e⟩
      · rw [e, hself _ (List.getElem_mem hi)] at h1; cases h1
    · refine .inr ⟨S[k], List.getElem_mem hk, e, himp, ?_⟩
      rcases hor with h1 | h1
      · exact .inl (h.lt (List.getElem_mem hk) (List.getElem_mem hi) (h.at hi hk h1) e)
      · exact .inr h1
  · rintro (⟨k, hk, hki, e⟩ | ⟨y, hy, hne, himp, hor⟩)
    · refine ⟨k, hk, ?_⟩
      unfold hit
      rw [getElem!_pos S k hk, getElem!_pos S i hi, e, hself _ (List.getElem_mem hi)]
      have : (k == i) = false := by simp; omega
      rw [this, decide_eq_true hki]; rfl
    · obtain ⟨k, hk, rfl⟩ := List.getElem_of_mem hy
      have hki : k ≠ i := fun e => hne (by subst e; rfl)
      refine ⟨k, hk, ?_⟩
      unfold hit
      rw [getElem!_pos S k hk, getElem!_pos S i hi, himp]
      have : (k == i) = false := by simpa using hki
      rw [this]
      rcases hor with h1 | h1
      · have hlt : k < i := by
          rcases Nat.lt_or_gt_of_ne hki with e | e
          · exact e
          · exact absurd h1 (h.at hk hi e)
        rw [decide_eq_true hlt]; rfl
      · rw [h1]; simp
theorem keep_mem (S : List C) (x : C) : ∀ n, n ≤ S.length → (x ∈ keepC S n ↔ ∃ i, ∃ hi : i < S.length, i < n ∧ S[i] = x ∧ needB S i = false)
  | 0, _ => by simp [keepC]
  | n + 1, hn => by
    rw [keepC, List.mem_append, keep_mem S x n (by omega)]
    constructor
    · rintro (⟨i, hi, h1, h2, h3⟩ | h)
      · exact ⟨i, hi, by omega, h2, h3⟩
      · cases hb : needB S n
        · rw [hb, getElem!_pos S n (by omega)] at h
          simp at h
          exact ⟨n, by omega, by omega, h.symm, hb⟩
        · rw [hb] at h; simp at h
    · rintro ⟨i, hi, h1, h2, h3⟩
      by_cases e : i = n
      · subst e
        rw [h3, getElem!_pos S i hi, h2]
        exact .inr (by simp)
      · exact .inl ⟨i, hi, by omega, h2, h3⟩
theorem keep_all {S : List C} (h : Rise S) (x : C) : x ∈ keepC S S.length ↔ x ∈ S ∧ ¬ Gone S x := by
  rw [keep_mem S x _ (Nat.le_refl _)]
  constructor
  · rintro ⟨i, hi, _, rfl, h3⟩
    refine ⟨List.getElem_mem hi, fun hg => ?_⟩
    rw [(need_iff h i hi).2 (.inr hg)] at h3; cases h3
  · rintro ⟨hx, hg⟩
    have key : ∀ n, ∀ i (hi : i < S.length), i ≤ n → S[i] = x → ∃ i, ∃ hi : i < S.length, i < S.length ∧ S[i] = x ∧ needB S i = false := by
      intro n
      induction n with
      | zero =>
        intro i hi h0 e
        refine ⟨i, hi, hi, e, ?_⟩
        cases hb : needB S i
        · rfl
        · rcases (need_iff h i hi).1 hb with ⟨k, _, hk, _⟩ | hg2
          · omega
          · rw [e] at hg2; exact absurd hg2 hg
      | succ n ih =>
        intro i hi h0 e
        cases hb : needB S i
        · exact ⟨i, hi, hi, e, hb⟩
        · rcases (need_iff h i hi).1 hb with ⟨k, hk, hki, e2⟩ | hg2
          · exact ih k hk (by omega) (e2.trans e)
          · rw [e] at hg2; exact absurd hg2 hg
    obtain ⟨i, hi, e⟩ := List.getElem_of_mem hx
    exact key i i hi (Nat.le_refl _) e
theorem canon_op {c : C} (h : 0 ≤ c.op ∧ c.op ≤ 7) : 0 ≤ (canonC c).op ∧ (canonC c).op ≤ 7 := by
  unfold canonC
  split
  · exact ⟨by show (0 : Int) ≤ 7; omega, by show (7 : Int) ≤ 7; omega⟩
  · exact h
theorem LOk.rise {L : List C} (h : LOk L) : Rise (sortC (L.map canonC)) where
  le := sortC_rises _
  kept := fun c hc => h.kept c ((sortC_perm _).subset hc)
  op := fun c hc => by
    obtain ⟨d, hd, rfl⟩ := List.mem_map.1 ((sortC_perm _).subset hc)
    exact canon_op ⟨(right_parts (h d hd).1).2.1, (right_parts (h d hd).1).2.2.1⟩
theorem norm_len {L : List C} : (sortC (L.map canonC)).length = L.length := by
  rw [(sortC_perm _).length_eq, List.length_map]
theorem norm_eq (L : List C) : normL L = keepC (sortC (L.map canonC)) (sortC (L.map canonC)).length := by
  rw [norm_len]; rfl
theorem normL_iff {L : List C} (h : LOk L) (x : C) : x ∈ normL L ↔ x ∈ L.map canonC ∧ ¬ Gone (L.map canonC) x := by
  rw [norm_eq, keep_all h.rise]
  have hm : ∀ y, y ∈ sortC (L.map canonC) ↔ y ∈ L.map canonC := fun y => (sortC_perm _).mem_iff
  have hg : Gone (sortC (L.map canonC)) x ↔ Gone (L.map canonC) x := by
    unfold Gone
    exact ⟨fun ⟨y, a, b⟩ => ⟨y, (hm y).1 a, b⟩, fun ⟨y, a, b⟩ => ⟨y, (hm y).2 a, b⟩⟩
  rw [hm, hg]
end Go.Proofs.YtceplbanfpnhbaaGreatDoor.Val
end

section
/- WHAT FilterTurns ASKS, plain. No walk. -/
namespace Go.Proofs.YtceplbanfpnhbaaGreatDoor.Val
open Go.RowKit Flt
theorem parts_long (l : List UInt8) : l.length + 1 = ((Sc.parts l).map (fun p => p.length + 1)).sum := by
  induction l with
  | nil => simp [Sc.parts]
  | cons b r ih =>
    rw [Sc.parts]
    split
    · rw [List.map_cons, List.sum_cons, ← ih]; simp; omega
    · cases h : Sc.parts r with
      | nil => exact absurd h (Sc.parts_ne r)
      | cons p q =>
        rw [h] at ih
        simp only [List.map_cons, List.sum_cons, List.length_cons] at ih ⊢
        omega
theorem names_long : ∀ L : List (List UInt8), L.all Sc.nameB = true → (L.map (fun p => p.length + 1)).sum ≤ 13 * L.length
  | [], _ => by simp
  | p :: L, h => by
    rw [List.all_cons, Bool.and_eq_true] at h
    have := names_long L h.2
    have h1 : p.length ≤ 12 := by
      have := h.1
      unfold Sc.nameB at this
      simp only [Bool.and_eq_true, decide_eq_true_eq] at this
      exact this.2
    rw [List.map_cons, List.sum_cons, List.length_cons]
    omega
theorem scope_short {s : List UInt8} (h : Sc.rightB s = true) : s.length ≤ 1000 := by
  unfold Sc.rightB at h
  rw [Bool.or_eq_true, Bool.and_eq_true, decide_eq_true_eq] at h
  rcases h with h | ⟨h1, h2⟩
  · have : s = [] := by simpa using h
    subst this; simp
  · have e1 := parts_long s
    have e2 := names_long _ h1
    omega
theorem fright_small {sf : List UInt8} {l : List C} (h : fRight sf l = true) (hok : ∀ x ∈ l, Open.COk x) (hn : ∀ x ∈ l, x.val.num < 18446744073709551616) : sf.length ≤ 1000 ∧ l.length ≤ 6 ∧ LOk l ∧ ∀ c ∈ l, CSmall c ∧ 0 ≤ c.op ∧ c.op ≤ 7 := by
  have hop := fright_op h
  unfold fRight at h
  simp only [Bool.and_eq_true, List.all_eq_true, decide_eq_true_eq] at h
  refine ⟨scope_short h.2.1, h.2.2, fun c hc => ⟨h.1 c hc, hn c hc⟩, fun c hc => ⟨⟨?_, ?_, hn c hc, (hok c hc).2.2.2.1.1, (hok c hc).2.2.2.1.2⟩, hop c hc⟩⟩
  · have := h.1 c hc
    unfold cRight Sc.nameB at this
    simp only [Bool.and_eq_true, decide_eq_true_eq] at this
    omega
  · have := h.1 c hc
    unfold cRight vRight at this
    simp only [Bool.and_eq_true, decide_eq_true_eq] at this
    omega
theorem under_me (s : List UInt8) : Sc.underB s s = true := by
  unfold Sc.underB
  simp
theorem covers_mems {sf : List UInt8} {l m : List C} (h : ∀ c ∈ l, c ∈ m) (ho : ∀ c ∈ l, 0 ≤ c.op ∧ c.op ≤ 7) : fCovers sf l sf m = true := by
  unfold fCovers
  rw [under_me, Bool.and_true, Bool.or_eq_true]
  refine .inr (List.all_eq_true.2 fun c hc => ?_)
  unfold fSome
  exact List.any_eq_true.2 ⟨c, h c hc, implies_self c (ho c hc).1 (ho c hc).2⟩
end Go.Proofs.YtceplbanfpnhbaaGreatDoor.Val
end

section
/- WHAT FilterCovers, FilterNorms AND FilterKeys ASK, plain: conditions as they are kept imply what they did; one that none implies stays; a key tells its scope and conditions. No walk. -/
namespace Go.Proofs.YtceplbanfpnhbaaGreatDoor.Val
open Go.RowKit Flt
theorem nsk_canon (x : Nat) (h : nan x = false) : sk (Ord.canon x) = sk x := by
  unfold Ord.canon
  rw [h]
  cases hz : Ord.zero x
  · simp
  · simp only [Bool.false_eq_true, if_false, if_true]
    rw [Ord.zero_iff] at hz
    have h0 : rung x = 0 := by simpa using hz
    have : sk x = 0 := by unfold sk; rw [h0]; split <;> simp
    rw [this]; decide
theorem nlt_canon (x y : Nat) : Flt.lt (Ord.canon x) (Ord.canon y) = Flt.lt x y := by
  unfold Flt.lt
  rw [Ord.canon_nan, Ord.canon_nan]
  cases h : nan x
  · cases h2 : nan y
    · rw [nsk_canon x h, nsk_canon y h2]
    · simp
  · simp
def KOk (v : V) : Prop := 0 ≤ v.kind ∧ v.kind ≤ 3
theorem KOk.canon {v : V} (h : KOk v) : KOk (canonV v) := by
  unfold KOk; rw [canonV_kind v h.1 h.2]; exact h
theorem four_ways {k : Int} (h0 : 0 ≤ k) (h3 : k ≤ 3) : k = 0 ∨ k = 1 ∨ k = 2 ∨ k = 3 := by omega
theorem ncmp_canon (a b : V) (ha : KOk a) (hk : a.kind = b.kind) : cmp (canonV a) (canonV b) = cmp a b := by
  obtain ⟨k, n, x, t, y⟩ := a
  obtain ⟨k2, n2, x2, t2, y2⟩ := b
  obtain ⟨h0, h3⟩ := ha
  simp only at hk h0 h3
  subst hk
  rcases four_ways h0 h3 with rfl | rfl | rfl | rfl
  · rfl
  · show sgn (Flt.lt (Ord.canon x) (Ord.canon x2)) (Flt.lt (Ord.canon x2) (Ord.canon x)) = sgn (Flt.lt x x2) (Flt.lt x2 x)
    rw [nlt_canon, nlt_canon]
  · rfl
  · rfl
theorem ncmpOk_canon (a b : V) (ha : KOk a) (hb : KOk b) : cmpOk (canonV a) (canonV b) = cmpOk a b := by
  unfold cmpOk
  rw [canonV_void, canonV_void, canonV_kind a ha.1 ha.2, canonV_kind b hb.1 hb.2]
theorem ncmp1_canon (a b : V) (ha : KOk a) (hb : KOk b) : cmp1 (canonV a) (canonV b) = cmp1 a b := by
  unfold cmp1
  rw [ncmpOk_canon a b ha hb]
  cases h : cmpOk a b
  · rfl
  · simp only [if_true]
    exact ncmp_canon a b ha (cmpOk_parts h).1
theorem ntext_canon {v : V} (h : v.kind = 2) : (canonV v).text = v.text := by
  obtain ⟨k, n, x, t, y⟩ := v
  simp only at h
  subst h
  rfl
theorem npre_canon (a b : V) (ha : KOk a) : (cmpOk a b && (canonV a).kind == 2 && pre (canonV a).text (canonV b).text) = (cmpOk a b && a.kind == 2 && pre a.text b.text) := by
  rw [canonV_kind a ha.1 ha.2]
  cases h : cmpOk a b
  · rfl
  · cases h2 : (a.kind == 2)
    · rfl
    · have e2 : a.kind = 2 := by simpa using h2
      rw [ntext_canon e2, ntext_canon ((cmpOk_parts h).1.symm.trans e2)]
theorem nholds_canon (nm : List UInt8) (op : Int) (b v : V) (hb : KOk b) (hv : KOk v) : holdsB ⟨nm, op, canonV b⟩ (canonV v) = holdsB ⟨nm, op, b⟩ v := by
  unfold holdsB
  simp only [ncmpOk_canon v b hv hb, ncmp1_canon v b hv hb, npre_canon v b hv]
/-- WHAT IS KEPT IMPLIES WHAT IT DID -/
theorem implies_canon (a b : C) (ha : KOk a.val) (hb : KOk b.val) : impliesB (canonC a) (canonC b) = impliesB a b := by
  have va := canonC_void a ha.1 ha.2
  have vb := canonC_void b hb.1 hb.2
  have nm (c : C) : (canonC c).name = c.name := by unfold canonC; split <;> rfl
  have op (c : C) : (canonC c).op = c.op := by
    unfold canonC; split
    · rename_i h; exact (beq_iff_eq.1 h).symm
    · rfl
  unfold impliesB
  rw [va, vb, nm, nm, op, op]
  cases h1 : (a.name != b.name)
  · cases h2 : (cvoidB a || b.op == 7)
    · simp only [Bool.false_eq_true, if_false]
      rw [Bool.or_eq_false_iff] at h2
      cases h3 : (a.op == 7)
      · have ea : canonC a = ⟨a.name, a.op, canonV a.val⟩ := by unfold canonC; simp only [h3, Bool.false_eq_true, if_false]
        have eb : canonC b = ⟨b.name, b.op, canonV b.val⟩ := by unfold canonC; simp only [h2.2, Bool.false_eq_true, if_false]
        have ek : ((canonC a).val.kind != (canonC b).val.kind) = (a.val.kind != b.val.kind) := by
          rw [ea, eb]; simp only [canonV_kind a.val ha.1 ha.2, canonV_kind b.val hb.1 hb.2]
        rw [ek]
        cases h4 : (false || cvoidB b || a.val.kind != b.val.kind)
        · simp only [Bool.false_eq_true, if_false]
          rw [Bool.or_eq_false_iff] at h4
          have hk : a.val.kind = b.val.kind := by simpa using h4.2
          unfold ruleB
          rw [ea, eb]
          simp only [nholds_canon b.name b.op b.val a.val hb ha, ncmp1_canon a.val b.val ha hb]
          cases h6 : (a.op == 6)
          · rfl
          · have e6 : a.op = 6 := by simpa using h6
            have k2 : a.val.kind = 2 := by
              have := h2.1
              unfold cvoidB at this
              rw [h6] at this
              simp at this
              exact this.2
            rw [ntext_canon k2, ntext_canon (hk.symm.trans k2)]
        · simp only [if_true]
      · rfl
    · rfl
  · rfl
theorem KOk.of_right {c : C} (h : cRight c = true) : KOk c.val := ⟨(right_parts h).2.2.2.1, (right_parts h).2.2.2.2⟩
theorem KOk.canonC {c : C} (h : KOk c.val) : KOk (canonC c).val := by
  unfold Val.canonC
  split
  · exact ⟨Int.le_refl 0, by show (0 : Int) ≤ 3; decide⟩
  · exact h.canon
theorem canonV_again {v : V} (h : KOk v) : canonV (canonV v) = canonV v := by
  obtain ⟨k, n, x, t, y⟩ := v
  obtain ⟨h0, h3⟩ := h
  simp only at h0 h3
  rcases four_ways h0 h3 with rfl | rfl | rfl | rfl
  · rfl
  · show (⟨1, 0, Ord.canon (Ord.canon x), [], false⟩ : V) = ⟨1, 0, Ord.canon x, [], false⟩
    rw [canon_again]
  · rfl
  · rfl
theorem canonC_again {c : C} (h : KOk c.val) : canonC (canonC c) = canonC c := by
  cases h7 : (c.op == 7)
  · have e : canonC c = ⟨c.name, c.op, canonV c.val⟩ := by unfold canonC; simp only [h7, Bool.false_eq_true, if_false]
    rw [e]
    unfold canonC
    simp only [h7, Bool.false_eq_true, if_false, canonV_again h]
  · have e : canonC c = ⟨c.name, 7, 0, 0, 0, [], false⟩ := by unfold canonC; simp only [h7, if_true]
    rw [e]; rfl
open Classical in
/-- below every one that is there stands one below which none stands -/
theorem least {α : Type} (S : List α) (R : α → α → Prop) (irr : ∀ x, ¬ R x x) (tr : ∀ x ∈ S, ∀ y ∈ S, ∀ z ∈ S, R z y → R y x → R z x) :
    ∀ n, ∀ c ∈ S, (S.filter (fun y => @decide (R y c) (Classical.propDecidable _))).length ≤ n → ∃ x ∈ S, (∀ y ∈ S, ¬ R y x) ∧ (x = c ∨ R x c) := by
  intro n
  induction n with
  | zero =>
    intro c hc h
    refine ⟨c, hc, fun y hy hr => ?_, .inl rfl⟩
    have hm : y ∈ S.filter (fun y => @decide (R y c) (Classical.propDecidable _)) := List.mem_filter.2 ⟨hy, decide_eq_true hr⟩
    rw [List.eq_nil_of_length_eq_zero (Nat.le_zero.1 h)] at hm
    cases hm
  | succ n ih =>
    intro c hc h
    by_cases hg : ∃ y ∈ S, R y c
    · obtain ⟨y, hy, hr⟩ := hg
      have hlt : (S.filter (fun z => @decide (R z y) (Classical.propDecidable _))).length < (S.filter (fun z => @decide (R z c) (Classical.propDecidable _))).length := by
        have he : S.filter (fun z => @decide (R z y) (Classical.propDecidable _)) = (S.filter (fun z => @decide (R z c) (Classical.propDecidable _))).filter (fun z => @decide (R z y) (Classical.propDecidable _)) := by
          rw [List.filter_filter]
          refine List.filter_congr fun z hz => ?_
          by_cases h1 : R z y
          · have h2 := tr c hc y hy z hz h1 hr
            simp [h1, h2]
          · simp [h1]
        rw [he]
        exact List.length_filter_lt_length_iff_exists.2 ⟨y, List.mem_filter.2 ⟨hy, decide_eq_true hr⟩, by simp [irr]⟩
      obtain ⟨x, hx, h1, h2⟩ := ih y hy (by omega)
      refine ⟨x, hx, h1, .inr ?_⟩
      rcases h2 with rfl | h2
      · exact hr
      · exact tr c hc y hy x hx h2 hr
    · exact ⟨c, hc, fun y hy hr => hg ⟨y, hy, hr⟩, .inl rfl⟩
theorem ltC_trans {a b c : C} (h1 : ltC a b) (h2 : ltC b c) : ltC a c := (cb_lt _ _ _).1 h1 h2
def Push (y x : C) : Prop := y ≠ x ∧ impliesB y x = true ∧ (ltC y x ∨ impliesB x y = false)
theorem push_trans {S : List C} (hop : ∀ c ∈ S, 0 ≤ c.op ∧ c.op ≤ 7) : ∀ x ∈ S, ∀ y ∈ S, ∀ z ∈ S, Push z y → Push y x → Push z x := by
  intro x hx y hy z hz ⟨_, i1, g1⟩ ⟨_, i2, g2⟩
  have tr {a b c : C} (ha : a ∈ S) (hb : b ∈ S) (hc : c ∈ S) := implies_trans a b c (hop a ha).1 (hop a ha).2 (hop b hb).1 (hop b hb).2 (hop c hc).1 (hop c hc).2
  have i3 := tr hz hy hx i1 i2
  refine ⟨?_, i3, ?_⟩
  · rintro rfl
    rcases g1 with g1 | g1
    · rcases g2 with g2 | g2
      · exact ltC_asymm g1 g2
      · rw [i1] at g2; cases g2
    · rw [i2] at g1; cases g1
  · cases h : impliesB x z
    · exact .inr rfl
    · refine .inl ?_
      have j1 := tr hx hz hy h i1
      have j2 := tr hy hx hz i2 h
      rcases g1 with g1 | g1
      · rcases g2 with g2 | g2
        · exact ltC_trans g1 g2
        · rw [j1] at g2; cases g2
      · rw [j2] at g1; cases g1
theorem LOk.op {L : List C} (h : LOk L) : ∀ c ∈ L, 0 ≤ c.op ∧ c.op ≤ 7 := fun c hc => ⟨(right_parts (h c hc).1).2.1, (right_parts (h c hc).1).2.2.1⟩
theorem LOk.kind {L : List C} (h : LOk L) : ∀ c ∈ L, KOk c.val := fun c hc => KOk.of_right (h c hc).1
theorem LOk.mop {L : List C} (h : LOk L) : ∀ c ∈ L.map canonC, 0 ≤ c.op ∧ c.op ≤ 7 := fun c hc => by
  obtain ⟨d, hd, rfl⟩ := List.mem_map.1 hc
  exact canon_op (h.op d hd)
/-- each one is implied by one that stays -/
theorem norm_some {L : List C} (h : LOk L) (c : C) (hc : c ∈ L) : ∃ d ∈ L, canonC d ∈ normL L ∧ impliesB d c = true := by
  have hs : canonC c ∈ L.map canonC := List.mem_map.2 ⟨c, hc, rfl⟩
  obtain ⟨x, hx, h1, h2⟩ := least (L.map canonC) Push (fun x hp => hp.1 rfl) (push_trans h.mop) _ _ hs (Nat.le_refl _)
  obtain ⟨d, hd, rfl⟩ := List.mem_map.1 hx
  refine ⟨d, hd, (normL_iff h _).2 ⟨hx, ?_⟩, ?_⟩
  · rintro ⟨y, hy, hg⟩
    exact h1 y hy hg
  · rw [← implies_canon d c (h.kind d hd) (h.kind c hc)]
    rcases h2 with e | e
    · rw [e]; exact implies_self _ (canon_op (h.op c hc)).1 (canon_op (h.op c hc)).2
    · exact e.2.1
theorem norm_of {L : List C} {x : C} (hx : x ∈ normL L) : ∃ d ∈ L, x = canonC d := normL_mem L x hx
theorem right_canon {c : C} (h : cRight c = true) : cRight (canonC c) = true := by
  have hp := right_parts h
  unfold cRight at h ⊢
  simp only [Bool.and_eq_true, decide_eq_true_eq] at h ⊢
  have nm : (canonC c).name = c.name := by unfold canonC; split <;> rfl
  rw [nm]
  refine ⟨⟨⟨h.1.1.1, (canon_op ⟨hp.2.1, hp.2.2.1⟩).1⟩, (canon_op ⟨hp.2.1, hp.2.2.1⟩).2⟩, ?_⟩
  unfold canonC
  split
  · exact (show vRight ⟨0, 0, 0, [], false⟩ = true by decide)
  · have h2 := h.2
    obtain ⟨nm, op, k, n, x, t, y⟩ := c
    obtain ⟨_, _, _, k0, k3⟩ := hp
    simp only at *
    rcases four_ways k0 k3 with rfl | rfl | rfl | rfl
    · rfl
    · rfl
    · unfold vRight at h2 ⊢
      exact h2
    · rfl
theorem num_canon {c : C} (h : c.val.num < 18446744073709551616) : (canonC c).val.num < 18446744073709551616 := by
  obtain ⟨nm, op, k, n, x, t, y⟩ := c
  simp only at h
  unfold canonC
  split
  · show (0 : Nat) < _; omega
  · show (canonV ⟨k, n, x, t, y⟩).num < _
    unfold canonV
    split
    · show (0 : Nat) < _; omega
    split
    · exact Ord.canon_lt x h
    split
    · show (0 : Nat) < _; omega
    split
    · show (0 : Nat) < _; omega
    · show (0 : Nat) < _; omega
theorem LOk.norm {L : List C} (h : LOk L) : LOk (normL L) := fun x hx => by
  obtain ⟨d, hd, rfl⟩ := norm_of hx
  exact ⟨right_canon (h d hd).1, num_canon (h d hd).2⟩
/-- what a filter is brought to covers it, and is covered by it -/
theorem norm_covers {sf : List UInt8} {L : List C} (h : LOk L) : fCovers sf (normL L) sf L = true ∧ fCovers sf L sf (normL L) = true := by
  unfold fCovers
  rw [under_me, Bool.and_true, Bool.and_true, Bool.or_eq_true, Bool.or_eq_true]
  refine ⟨.inr (List.all_eq_true.2 fun x hx => ?_), .inr (List.all_eq_true.2 fun c hc => ?_)⟩
  · obtain ⟨d, hd, rfl⟩ := norm_of hx
    unfold fSome
    refine List.any_eq_true.2 ⟨d, hd, ?_⟩
    rw [← implies_canon d _ (h.kind d hd) (KOk.canonC (h.kind d hd)), canonC_again (h.kind d hd)]
    exact implies_self _ (canon_op (h.op d hd)).1 (canon_op (h.op d hd)).2
  · obtain ⟨d, hd, hn, hi⟩ := norm_some h c hc
    unfold fSome
    refine List.any_eq_true.2 ⟨_, hn, ?_⟩
    rw [← implies_canon _ c (KOk.canonC (h.kind d hd)) (h.kind c hc), canonC_again (h.kind d hd), implies_canon d c (h.kind d hd) (h.kind c hc)]
    exact hi
theorem norm_covers2 {sf sg : List UInt8} {L M : List C} (hL : LOk L) (hM : LOk M) : fCovers sf (normL L) sg (normL M) = fCovers sf L sg M := by
  rw [Bool.eq_iff_iff]
  constructor
  · intro h
    exact covers_trans hL.op hL.norm.op hM.op (norm_covers hL).2 (covers_trans hL.norm.op hM.norm.op hM.op h (norm_covers hM).1)
  · intro h
    exact covers_trans hL.norm.op hL.op hM.norm.op (norm_covers hL).1 (covers_trans hL.op hM.op hM.norm.op h (norm_covers hM).2)
end Go.Proofs.YtceplbanfpnhbaaGreatDoor.Val
end

section
/- THE WALKS OF filter.Match, filter.Right, filter.Covers. -/
namespace Go.Proofs.YtceplbanfpnhbaaGreatDoor.Val
open Go.RowKit Flt
attribute [local go_sem] run_store_flt
set_option maxHeartbeats 2000000 in
theorem fmatch_any (sf : List UInt8) (a0 : Option Addr) (cap : Nat) (l : List C) (se : List UInt8) (b0 : Option Addr) (cp : Nat) (al : List A) (w : World) (hl : Conds w a0 l) (ha : Attrs w b0 al) (hlm : l.length ≤ 1000000) (ham : al.length ≤ 1000000)
    (hsf : sf.length ≤ 140737488351232) (hse : se.length ≤ 140737488351232) :
    Calls Tryz.prog 30 #[ev sf a0 l.length cap, ev se b0 al.length cp] w fun e w' => e = .returned (.bool (fMatch sf l se al)) ∧ Below w.heap.size w w' := by
  have hmt (W : World) (h : Attrs W b0 al) (c : C) := match_any c se b0 cp al W h ham
  have hun (W : World) := Sc.under_l se sf W hse hsf
  have hr : fMatch sf l se al = (l.all (fun c => matchB c al) && Sc.underB se sf) := rfl
  have HL := Lib.hid hl; have HA := Lib.hid ha; have HMT := Lib.hid hmt; have HUN := Lib.hid hun; have HR := Lib.hid hr
  clear hl ha hmt hun hr ham hsf hse
  generalize Sc.underB se sf = U at *
  generalize fMatch sf l se al = R at *
  go_enter Tryz.func30, Tryz.ntmps30
  go_wp2_with fail
  have hx1 := (box2_new w sf a0 l.length cap 24).below (balloc _ (.cells #[.string ⟨se.toArray⟩, .slice b0 al.length cp] 57))
  have hx2 := box2_new (w.alloc (.cells #[.string ⟨sf.toArray⟩, .slice a0 l.length cap] 24)) se b0 al.length cp 57
  rw [World.size_alloc] at hx2
  have hbw := balloc2 w (.cells #[.string ⟨sf.toArray⟩, .slice a0 l.length cap] 24) (.cells #[.string ⟨se.toArray⟩, .slice b0 al.length cp] 57)
  have HX1 := Lib.hid hx1; have HX2 := Lib.hid hx2; have HBW := Lib.hid hbw
  clear hx1 hx2 hbw
  generalize (w.alloc _).alloc _ = W0 at *
  go_loopw [10] (fun vi wr => ∃ k : Nat, k ≤ l.length ∧ vi = .int .i64 k ∧ Hid ((l.take k).all (fun c => matchB c al) = true) ∧ Below W0.heap.size W0 wr) (fun vi _ => l.length - (intOf vi).toNat)
  case atStart => exact ⟨0, Nat.zero_le _, rfl, Lib.hid rfl, Below.refl _ _⟩
  case round =>
    obtain ⟨k, hk, rfl, HP, hbr⟩ := hrel
    have hbz := btrans HBW.out hbr
    have hy1 := HX1.out.below hbr
    have hy2 := HX2.out.below hbr
    have hs1 := hy1.lt
    have hs2 := hy2.lt
    obtain ⟨f0, f1⟩ := hy1
    obtain ⟨e0, e1⟩ := hy2
    have HBZ := Lib.hid hbz; have HBR := Lib.hid hbr
    clear hbz hbr
    by_cases hlt : k < l.length
    · have i1 : (k : Int) < (l.length : Int) := by omega
      have i0 : (0 : Int) ≤ (k : Int) := by omega
      have hts := all_take_succ' (fun c => matchB c al) l k hlt
      have hno := all_miss (fun c => matchB c al) l k hlt
      rw [HP.out, Bool.true_and] at hts
      obtain ⟨a, rfl, v0, v1, v2, v3, v4, v5, v6⟩ := (HL.out.below HBZ.out) k hlt
      have hmc (W : World) (h : Attrs W b0 al) := HMT.out W h l[k]
      (try dsimp only at hts); (try dsimp only at hno)
      generalize matchB l[k] al = M at *
      have HTS := Lib.hid hts; have HNO := Lib.hid hno; have HMC := Lib.hid hmc
      clear hts hno hmc HP
      cases M
      · go_wp2_with (go_at_call 62; refine (HMC.out _ (HA.out.below (btrans HBZ.out (balloc _ _)))).mono ?_; rintro e w5 ⟨rfl, hb5⟩)
        go_ret
        exact ⟨ret_bool (by rw [HR.out, HNO.out (by trivial)]; rfl), btrans (btrans HBZ.out (balloc _ _)) hb5⟩
      · go_wp2_with (go_at_call 62; refine (HMC.out _ (HA.out.below (btrans HBZ.out (balloc _ _)))).mono ?_; rintro e w5 ⟨rfl, hb5⟩)
        exact ⟨⟨k + 1, by omega, by go_num, Lib.hid HTS.out, btrans (btrans HBR.out (balloc _ _)) hb5⟩, by simp [intOf]; go_num⟩
    · obtain rfl : k = l.length := by omega
      have hP := HP.out
      rw [List.take_length] at hP
      have HQ := Lib.hid hP; clear hP
      go_wp2_with (go_at_call 53; refine (HUN.out _).mono ?_; rintro e w5 ⟨rfl, rfl⟩)
      go_ret
      exact ⟨ret_bool (by rw [HR.out, HQ.out]; rfl), HBZ.out⟩
set_option maxHeartbeats 2000000 in
theorem fright_any (sf : List UInt8) (a0 : Option Addr) (cap : Nat) (l : List C) (w : World) (hl : Conds w a0 l) (hlm : l.length ≤ 1000000)
    (hsf : sf.length ≤ 140737488351232) (hok : ∀ c ∈ l, c.name.length ≤ 140737488351232 ∧ c.val.text.length ≤ 140737488351232) :
    Calls Tryz.prog 17 #[ev sf a0 l.length cap] w fun e w' => e = .returned (.bool (fRight sf l)) ∧ Below w.heap.size w w' := by
  have hrt (W : World) := Sc.right_l sf W hsf
  have hr : fRight sf l = (l.all cRight && (Sc.rightB sf && decide (l.length ≤ 6))) := rfl
  have HL := Lib.hid hl; have HRT := Lib.hid hrt; have HR := Lib.hid hr; have HOK := Lib.hid hok
  clear hl hrt hr hsf hok
  generalize Sc.rightB sf = U at *
  generalize fRight sf l = R at *
  go_enter Tryz.func17, Tryz.ntmps17
  go_wp2_with fail
  have hx1 := box2_new w sf a0 l.length cap 24
  have hbw := balloc w (.cells #[.string ⟨sf.toArray⟩, .slice a0 l.length cap] 24)
  have HX1 := Lib.hid hx1; have HBW := Lib.hid hbw
  clear hx1 hbw
  generalize w.alloc _ = W0 at *
  go_loopw [8] (fun vi wr => ∃ k : Nat, k ≤ l.length ∧ vi = .int .i64 k ∧ Hid ((l.take k).all cRight = true) ∧ Below W0.heap.size W0 wr) (fun vi _ => l.length - (intOf vi).toNat)
  case atStart => exact ⟨0, Nat.zero_le _, rfl, Lib.hid rfl, Below.refl _ _⟩
  case round =>
    obtain ⟨k, hk, rfl, HP, hbr⟩ := hrel
    have hbz := btrans HBW.out hbr
    have hy1 := HX1.out.below hbr
    have hs1 := hy1.lt
    obtain ⟨f0, f1⟩ := hy1
    have HBZ := Lib.hid hbz; have HBR := Lib.hid hbr
    clear hbz hbr
    by_cases hlt : k < l.length
    · have i1 : (k : Int) < (l.length : Int) := by omega
      have i0 : (0 : Int) ≤ (k : Int) := by omega
      have hts := all_take_succ' cRight l k hlt
      have hno := all_miss cRight l k hlt
      rw [HP.out, Bool.true_and] at hts
      have hx := HOK.out _ (List.getElem_mem hlt)
      obtain ⟨a, rfl, v0, v1, v2, v3, v4, v5, v6⟩ := (HL.out.below HBZ.out) k hlt
      have hmc (W : World) : Calls Tryz.prog 50 #[cc l[k]] W fun e w' => e = .returned (.bool (cRight l[k])) ∧ Below W.heap.size W w' := cright_any _ _ _ _ _ _ _ W hx.1 hx.2
      clear hx
      generalize cRight l[k] = M at *
      have HTS := Lib.hid hts; have HNO := Lib.hid hno; have HMC := Lib.hid hmc
      clear hts hno hmc HP
      cases M
      · go_wp2_with (go_at_call 50; refine (HMC.out _).mono ?_; rintro e w5 ⟨rfl, hb5⟩)
        go_ret
        exact ⟨ret_bool (by rw [HR.out, HNO.out (by trivial)]; rfl), btrans (btrans HBZ.out (balloc _ _)) hb5⟩
      · go_wp2_with (go_at_call 50; refine (HMC.out _).mono ?_; rintro e w5 ⟨rfl, hb5⟩)
        exact ⟨⟨k + 1, by omega, by go_num, Lib.hid HTS.out, btrans (btrans HBR.out (balloc _ _)) hb5⟩, by simp [intOf]; go_num⟩
    · obtain rfl : k = l.length := by omega
      have hP := HP.out
      rw [List.take_length] at hP
      have HQ := Lib.hid hP; clear hP
      cases U
      · go_wp2_with (go_at_call 49; refine (HRT.out _).mono ?_; rintro e w5 ⟨rfl, ⟨nd, rfl⟩⟩)
        go_ret
        exact ⟨ret_bool (by rw [HR.out, HQ.out]; rfl), bdrewN HBZ.out _⟩
      · go_wp2_with (go_at_call 49; refine (HRT.out _).mono ?_; rintro e w5 ⟨rfl, ⟨nd, rfl⟩⟩)
        go_ret
        exact ⟨ret_bool (by rw [HR.out, HQ.out, Bool.true_and, Bool.true_and, Bool.eq_iff_iff]; simp; omega), bdrewN HBZ.out _⟩
set_option maxRecDepth 20000 in
set_option maxHeartbeats 2000000 in
theorem fcovers_any (sf : List UInt8) (a0 : Option Addr) (cap : Nat) (l : List C) (sg : List UInt8) (b0 : Option Addr) (cp : Nat) (m : List C) (w : World) (hl : Conds w a0 l) (hm : Conds w b0 m) (hlm : l.length ≤ 1000000) (hmm : m.length ≤ 1000000)
    (hsf : sf.length ≤ 140737488351232) (hsg : sg.length ≤ 140737488351232) (hop : ∀ c ∈ m, 0 ≤ c.op ∧ c.op ≤ 7) (hnm : ∀ c ∈ m, c.val.num < 18446744073709551616) (hnl : ∀ c ∈ l, c.val.num < 18446744073709551616) :
    Calls Tryz.prog 19 #[ev sf a0 l.length cap, ev sg b0 m.length cp] w fun e w' => e = .returned (.bool (fCovers sf l sg m)) ∧ Below w.heap.size w w' := by
  have hvo (W : World) (h : Conds W b0 m) := fvoid_any sg b0 cp m W h hmm
  have hun (W : World) := Sc.under_l sg sf W hsg hsf
  have hr : fCovers sf l sg m = (fVoid m || (l.all (fun c => fSome c m) && Sc.underB sg sf)) := rfl
  have hco (c : C) (hc : c.val.num < 18446744073709551616) (b : Nat) (W : World) (h : Conds W b0 m) (hb : CAt W ⟨b, 0, none⟩ c) : Calls Tryz.prog 51 #[.slice b0 m.length cp, .func (.func 52) #[] #[.pointer (some ⟨b, 0, none⟩)]] W fun e w' => e = .returned (.bool (fSome c m)) ∧ Below W.heap.size W w' :=
    containsf_any _ enters_covers1 #[.pointer (some ⟨b, 0, none⟩)] (fun d => impliesB d c) b0 cp m W h hmm (fun V hV d hd => covers1_any d c b V (hb.below hV) (hop d hd) (hnm d hd) hc)
  have hmf : ∀ (fn : Fn) (first cap : Array Value) (w : World), (Instr.makeFunc fn first cap).run Tryz.prog w = .ok (.func fn first cap) w := fun _ _ _ _ => rfl
  have HL := Lib.hid hl; have HM := Lib.hid hm; have HVO := Lib.hid hvo; have HUN := Lib.hid hun; have HR := Lib.hid hr; have HCO := Lib.hid hco; have HNL := Lib.hid hnl
  clear hl hm hvo hun hr hco hsf hsg hop hnm hnl
  generalize Sc.underB sg sf = U at *
  generalize fCovers sf l sg m = R at *
  generalize fVoid m = V at *
  cases V
  rotate_left
  · go_enter Tryz.func19, Tryz.ntmps19
    go_wp2_with (go_at_call 33; refine (HVO.out _ (HM.out.below (balloc2 _ _ _))).mono ?_; rintro e w5 ⟨rfl, hb5⟩)
    go_ret
    exact ⟨ret_bool (by rw [HR.out]; rfl), btrans (balloc2 _ _ _) hb5⟩
  rw [Bool.false_or] at HR
  go_enter Tryz.func19, Tryz.ntmps19
  go_wp2_with fail
  refine (HVO.out _ (HM.out.below (balloc2 _ _ _))).mono ?_
  rintro e w5 ⟨rfl, hb5⟩
  have hx1 := ((box2_new w sf a0 l.length cap 24).below (balloc _ (.cells #[.string ⟨sg.toArray⟩, .slice b0 m.length cp] 24))).below hb5
  have hx2 := box2_new (w.alloc (.cells #[.string ⟨sf.toArray⟩, .slice a0 l.length cap] 24)) sg b0 m.length cp 24
  rw [World.size_alloc] at hx2
  replace hx2 := hx2.below hb5
  have hbw := btrans (balloc2 w (.cells #[.string ⟨sf.toArray⟩, .slice a0 l.length cap] 24) (.cells #[.string ⟨sg.toArray⟩, .slice b0 m.length cp] 24)) hb5
  have hs1 := hx1.lt
  have hs2 := hx2.lt
  have HX1 := Lib.hid hx1; have HX2 := Lib.hid hx2; have HBW := Lib.hid hbw
  obtain ⟨f0, f1⟩ := hx1
  obtain ⟨e0, e1⟩ := hx2
  clear hbw hb5
  go_wp2_with fail
  clear f0 f1 e0 e1 hs1 hs2
  go_loopw [12] (fun vi wr => ∃ k : Nat, k ≤ l.length ∧ vi = .int .i64 k ∧ Hid ((l.take k).all (fun c => fSome c m) = true) ∧ Below w5.heap.size w5 wr) (fun vi _ => l.length - (intOf vi).toNat)
  case atStart => exact ⟨0, Nat.zero_le _, rfl, Lib.hid rfl, Below.refl _ _⟩
  case round =>
    obtain ⟨k, hk, rfl, HP, hbr⟩ := hrel
    have hbz := btrans HBW.out hbr
    have hy1 := HX1.out.below hbr
    have hy2 := HX2.out.below hbr
    have hs1 := hy1.lt
    have hs2 := hy2.lt
    obtain ⟨f0, f1⟩ := hy1
    obtain ⟨e0, e1⟩ := hy2
    have HBZ := Lib.hid hbz; have HBR := Lib.hid hbr
    clear hbz hbr
    by_cases hlt : k < l.length
    · have i1 : (k : Int) < (l.length : Int) := by omega
      have i0 : (0 : Int) ≤ (k : Int) := by omega
      have hts := all_take_succ' (fun c => fSome c m) l k hlt
      have hno := all_miss (fun c => fSome c m) l k hlt
      rw [HP.out, Bool.true_and] at hts
      obtain ⟨a, rfl, v0, v1, v2, v3, v4, v5, v6⟩ := (HL.out.below HBZ.out) k hlt
      have hmc (b : Nat) (W : World) := HCO.out l[k] (HNL.out _ (List.getElem_mem hlt)) b W
      (try dsimp only at hts); (try dsimp only at hno)
      generalize fSome l[k] m = M at *
      have HTS := Lib.hid hts; have HNO := Lib.hid hno; have HMC := Lib.hid hmc
      clear hts hno hmc HP
      cases M
      · go_wp2_with (go_at_call 51; refine (HMC.out _ _ (HM.out.below (btrans HBZ.out (balloc _ _))) (cat_new _ _ _)).mono ?_; rintro e w6 ⟨rfl, hb6⟩)
        go_ret
        exact ⟨ret_bool (by rw [HR.out, HNO.out (by trivial)]; rfl), btrans (btrans HBZ.out (balloc _ _)) hb6⟩
      · go_wp2_with (go_at_call 51; refine (HMC.out _ _ (HM.out.below (btrans HBZ.out (balloc _ _))) (cat_new _ _ _)).mono ?_; rintro e w6 ⟨rfl, hb6⟩)
        exact ⟨⟨k + 1, by omega, by go_num, Lib.hid HTS.out, btrans (btrans HBR.out (balloc _ _)) hb6⟩, by simp [intOf]; go_num⟩
    · obtain rfl : k = l.length := by omega
      have hP := HP.out
      rw [List.take_length] at hP
      have HQ := Lib.hid hP; clear hP
      go_wp2_with (go_at_call 53; refine (HUN.out _).mono ?_; rintro e w6 ⟨rfl, rfl⟩)
      go_ret
      exact ⟨ret_bool (by rw [HR.out, HQ.out]; rfl), HBZ.out⟩
end Go.Proofs.YtceplbanfpnhbaaGreatDoor.Val
end

section
/- THE WALKS OF Light, few and Event of chapter 07's laws. -/
namespace Go.Proofs.YtceplbanfpnhbaaGreatDoor.Val
open Go.RowKit Flt
attribute [local go_sem] run_store_flt
set_option maxHeartbeats 2000000 in
theorem light07_any (sf : List UInt8) (a0 : Option Addr) (cap : Nat) (l : List C) (w : World) (hl : Conds w a0 l) (hlm : l.length ≤ maxLen) :
    Calls Tryz.prog 16 #[ev sf a0 l.length cap] w fun e w' => (∃ b : Bool, e = .returned (.bool b) ∧ (b = true → l.length ≤ 20)) ∧ Below w.heap.size w w' := by
  have HL := Lib.hid hl
  unfold maxLen at hlm
  clear hl
  go_enter Tryz.func16, Tryz.ntmps16
  go_wp2_with fail
  have hx1 := box2_new w sf a0 l.length cap 24
  have hbw := balloc w (.cells #[.string ⟨sf.toArray⟩, .slice a0 l.length cap] 24)
  have HX1 := Lib.hid hx1; have HBW := Lib.hid hbw
  clear hx1 hbw
  generalize w.alloc _ = W0 at *
  go_loopw [3, 12] (fun vn vi wr => ∃ (k : Nat) (z : Int), k ≤ l.length ∧ vn = .int .i64 z ∧ vi = .int .i64 k ∧ Below W0.heap.size W0 wr) (fun _ vi _ => l.length - (intOf vi).toNat)
  case atStart => exact ⟨0, _, Nat.zero_le _, rfl, rfl, Below.refl _ _⟩
  case round =>
    obtain ⟨k, z, hk, rfl, rfl, hbr⟩ := hrel
    have hbz := btrans HBW.out hbr
    have hy1 := HX1.out.below hbr
    have hs1 := hy1.lt
    obtain ⟨f0, f1⟩ := hy1
    have HBZ := Lib.hid hbz; have HBR := Lib.hid hbr
    clear hbz hbr
    by_cases hlt : k < l.length
    · have i1 : (k : Int) < (l.length : Int) := by omega
      have i0 : (0 : Int) ≤ (k : Int) := by omega
      obtain ⟨a, rfl, v0, v1, v2, v3, v4, v5, v6⟩ := (HL.out.below HBZ.out) k hlt
      go_wp2_with fail
      exact ⟨⟨k + 1, _, by omega, rfl, by go_num, btrans HBR.out (balloc _ _)⟩, by simp [intOf]; go_num⟩
    · obtain rfl : k = l.length := by omega
      cases hd : decide (z ≤ 2000)
      · go_wp2_with fail
        go_ret
        exact ⟨⟨_, rfl, fun h => by cases h⟩, HBZ.out⟩
      · go_wp2_with fail
        go_ret
        exact ⟨⟨_, rfl, fun h => by simp at h; omega⟩, HBZ.out⟩
set_option maxHeartbeats 2000000 in
theorem few07_any (a0 : Option Addr) (cap : Nat) (l : List A) (w : World) (hl : Attrs w a0 l) (hlm : l.length ≤ maxLen) :
    Calls Tryz.prog 27 #[.slice a0 l.length cap] w fun e w' => (∃ b : Bool, e = .returned (.bool b) ∧ (b = true → l.length ≤ 20)) ∧ Below w.heap.size w w' := by
  have HL := Lib.hid hl
  unfold maxLen at hlm
  clear hl
  go_enter Tryz.func27, Tryz.ntmps27
  go_wp2_with fail
  go_loopw [3, 8] (fun vn vi wr => ∃ (k : Nat) (z : Int), k ≤ l.length ∧ vn = .int .i64 z ∧ vi = .int .i64 k ∧ Below w.heap.size w wr) (fun _ vi _ => l.length - (intOf vi).toNat)
  case atStart => exact ⟨0, _, Nat.zero_le _, rfl, rfl, Below.refl _ _⟩
  case round =>
    obtain ⟨k, z, hk, rfl, rfl, hbr⟩ := hrel
    have HBR := Lib.hid hbr
    clear hbr
    by_cases hlt : k < l.length
    · have i1 : (k : Int) < (l.length : Int) := by omega
      have i0 : (0 : Int) ≤ (k : Int) := by omega
      obtain ⟨a, rfl, v0, v1, v2, v3, v4, v5⟩ := (HL.out.below HBR.out) k hlt
      go_wp2_with fail
      exact ⟨⟨k + 1, _, by omega, rfl, by go_num, btrans HBR.out (balloc _ _)⟩, by simp [intOf]; go_num⟩
    · obtain rfl : k = l.length := by omega
      cases hd : decide (z ≤ 2000)
      · go_wp2_with fail
        go_ret
        exact ⟨⟨_, rfl, fun h => by cases h⟩, HBR.out⟩
      · go_wp2_with fail
        go_ret
        exact ⟨⟨_, rfl, fun h => by simp at h; omega⟩, HBR.out⟩
theorem newB_small {l : List A} (h : ∀ x ∈ l, Open.AOk x) : ∀ a ∈ newB l, a.name.length ≤ 140737488351232 ∧ a.val.text.length ≤ 140737488351232 := fun a ha => by
  obtain ⟨x, hx, hn, hv⟩ := mem_newB ha
  have hk := h x hx
  refine ⟨by rw [← hn]; exact hk.1, ?_⟩
  have ht : x.val.text.length ≤ 140737488351232 := hk.2.2.2.2
  rw [hv]
  unfold canonV
  split
  · simp
  split
  · simp
  split
  · exact ht
  split
  · simp
  · simp
theorem one_attrs2 (w : World) (g : Nat) (hg : g = w.heap.size) (a : A) (e : TypeId) : Attrs (w.alloc (.cells #[.string ⟨a.name.toArray⟩, .int .i64 a.val.kind, .int .i64 a.val.int, .float .f64 a.val.num, .string ⟨a.val.text.toArray⟩, .bool a.val.yes] e)) (some ⟨g, 0, none⟩) [a] := by
  subst hg; exact liesA (new_attr w a e)
set_option maxRecDepth 20000 in
set_option maxHeartbeats 4000000 in
theorem event07_any (s : List UInt8) (a0 : Option Addr) (cap : Nat) (l : List A) (w : World) (hl : Attrs w a0 l) (hlm : l.length ≤ 100000) (hs : s.length ≤ 140737488351232) (hok : ∀ x ∈ l, Open.AOk x) :
    Calls Tryz.prog 28 #[.string ⟨s.toArray⟩, .slice a0 l.length cap] w fun e w' =>
      ∃ b0 cp, e = .returned (ev (evS s) b0 (evL l).length cp) ∧ Attrs w' b0 (evL l) ∧ Below w.heap.size w w' := by
  have hrt (W : World) := Sc.right_l s W hs
  have hnew (sc : List UInt8) (W : World) (h : Attrs W a0 l) := new_any sc a0 cap l W h hlm
  have hnl := newB_len l
  have hend := evK_end l
  have hsm := newB_small hok
  have hes : evS s = if Sc.rightB s then s else [] := rfl
  have HL := Lib.hid hl; have HRT := Lib.hid hrt; have HNEW := Lib.hid hnew; have HEND := Lib.hid hend; have HSM := Lib.hid hsm
  clear hl hrt hnew hend hsm hok hs
  generalize newB l = nb at *
  generalize evL l = el at *
  generalize Sc.rightB s = U at *
  generalize evS s = sc at *
  obtain ⟨i0, hi, hz0, hz1, hz2⟩ := info_parts info_attr
  cases U
  all_goals
    simp only [Bool.false_eq_true, if_false, if_true] at hes
    have HES := Lib.hid hes
    clear hes
    go_enter Tryz.func28, Tryz.ntmps28
    go_wp2_with (go_at_call 49; refine (HRT.out _).mono ?_; rintro e w5 ⟨rfl, ⟨nd, rfl⟩⟩)
    refine (HNEW.out _ _ (HL.out.below (bdrewN (balloc _ _) _))).mono ?_
    rintro e w2 ⟨b1, cp1, rfl, hat2, _, hb2⟩
    have hbw := btrans (bdrewN (balloc w (.cells #[.string ⟨#[]⟩, .slice none 0 0] 57)) nd) hb2
    have hres : ((w2.cell? ⟨w.heap.size, 0, none⟩).isSome = true ∧ (w2.cell? ⟨w.heap.size, 1, none⟩).isSome = true) ∧ w2.frozen? ⟨w.heap.size, 0, none⟩ = false ∧ w2.frozen? ⟨w.heap.size, 1, none⟩ = false ∧ w.heap.size < w2.heap.size := by
      have hs2 : w.heap.size < w2.heap.size := Nat.lt_of_lt_of_le (by show w.heap.size < (w.alloc _).heap.size; simp) hb2.size
      obtain ⟨hc2, hf2⟩ := bcell hb2
      have q0 := (hc2 w.heap.size 0 (by show w.heap.size < (w.alloc _).heap.size; simp)).trans (World.cell?_alloc_at (w := w) _ _ _ _ rfl)
      have q1 := (hc2 w.heap.size 1 (by show w.heap.size < (w.alloc _).heap.size; simp)).trans (World.cell?_alloc_at (w := w) _ _ _ _ rfl)
      have z0 := (hf2 w.heap.size 0 (by show w.heap.size < (w.alloc _).heap.size; simp)).trans (World.frozen?_alloc_at (w := w) _ _ _ _ rfl)
      have z1 := (hf2 w.heap.size 1 (by show w.heap.size < (w.alloc _).heap.size; simp)).trans (World.frozen?_alloc_at (w := w) _ _ _ _ rfl)
      exact ⟨⟨by rw [q0]; rfl, by rw [q1]; rfl⟩, z0, z1, hs2⟩
    have HRES := Lib.hid hres; have HBW := Lib.hid hbw; have HAT2 := Lib.hid hat2
    clear hres hbw hat2 hb2 HL HNEW
    go_wp2_with fail
    go_loopw [20] (fun vi wr => ∃ (kk : Nat) (v : Value), kk ≤ nb.length ∧ vi = .int .i64 kk ∧ NewAt w2.heap.size sc v (evK nb kk) wr ∧ Below w2.heap.size w2 wr) (fun vi _ => nb.length - (intOf vi).toNat)
    case atStart =>
      refine ⟨0, .slice none 0 0, Nat.zero_le _, rfl, ⟨?_, ?_, ?_, ?_, ?_, ?_, ?_, World.ownsRow_nil _ _ _ _, ?_⟩, by repeat (first | assumption | (with_reducible exact Below.refl _ _) | exact balloc _ _ | exact balloc2 _ _ _ | refine btrans ?_ (by assumption) | refine btrans ?_ (balloc _ _))⟩ <;> first | (rw [HES.out]; simp [go_sem]; done) | simp [go_sem]
    case round =>
      obtain ⟨kk, v, hk, rfl, hat, hbr⟩ := hrel
      have hsz := hat.2.2.2.2.2.2.2.2
      by_cases hlt : kk < nb.length
      · have i1 : (kk : Int) < (nb.length : Int) := by omega
        have i0' : (0 : Int) ≤ (kk : Int) := by omega
        obtain ⟨a, rfl, v0, v1, v2, v3, v4, v5⟩ := (HAT2.out.below hbr) kk hlt
        obtain ⟨ob, oc, rfl, hal⟩ := own_attrs hat.2.2.2.2.2.2.2.1
        have hl8 := evK_len nb kk
        have hef := evK_full nb kk hlt
        have hen := evK_no nb kk hlt
        have hey := evK_yes nb kk hlt
        have hsmk := HSM.out _ (List.getElem_mem hlt)
        have her (W : World) (h : Attrs W (some ⟨wr.heap.size + 1, 0, none⟩) [nb[kk]]) : Calls Tryz.prog 58 #[ev [] (some ⟨wr.heap.size + 1, 0, none⟩) 1 1] W fun e w' => e = .returned (.bool (okA nb[kk])) ∧ Below W.heap.size W w' :=
          eright_any [] _ 1 [nb[kk]] W h (by simp) (fun x hx => by rw [List.mem_singleton.1 hx]; exact hsmk)
        have hat' := hat
        obtain ⟨o0, o1, ofz, _, _, _, _, _, _⟩ := hat'
        generalize evK nb kk = acc at *
        generalize hM : okA nb[kk] = M at *
        have HAT := Lib.hid hat; have HEF := Lib.hid hef; have HEN := Lib.hid hen; have HEY := Lib.hid hey; have HER := Lib.hid her
        clear hal hat hef hen hey hsmk her hM
        have hne : w2.heap.size + 1 < wr.heap.size := by omega
        by_cases h8 : acc.length < 8
        rotate_left
        · have d1 : ¬ (acc.length : Int) < 8 := by omega
          go_wp2_with fail
          exact ⟨⟨kk + 1, _, by omega, by go_num, by rw [HEF.out h8]; exact HAT.out.below (balloc _ _), btrans hbr (balloc _ _)⟩, by simp [intOf]; go_num⟩
        · have d1 : (acc.length : Int) < 8 := by omega
          cases M
          · go_wp2_with (go_at_call 58; refine (HER.out _ (one_attrs2 (wr.alloc (.cells #[.string ⟨(nb[kk]).name.toArray⟩, .int .i64 (nb[kk]).val.kind, .int .i64 (nb[kk]).val.int, .float .f64 (nb[kk]).val.num, .string ⟨(nb[kk]).val.text.toArray⟩, .bool (nb[kk]).val.yes] 87)) _ (World.size_alloc _ _).symm _ _)).mono ?_; rintro e w4 ⟨rfl, hb4⟩)
            exact ⟨⟨kk + 1, _, by omega, by go_num, by rw [HEN.out (by trivial)]; exact (HAT.out.below (balloc2 _ _ _)).below hb4, btrans hbr (btrans (balloc2 _ _ _) hb4)⟩, by simp [intOf]; go_num⟩
          · go_wp2_with fail
            refine (HER.out _ (one_attrs2 (wr.alloc (.cells #[.string ⟨(nb[kk]).name.toArray⟩, .int .i64 (nb[kk]).val.kind, .int .i64 (nb[kk]).val.int, .float .f64 (nb[kk]).val.num, .string ⟨(nb[kk]).val.text.toArray⟩, .bool (nb[kk]).val.yes] 87)) _ (World.size_alloc _ _).symm _ _)).mono ?_; rintro e w4 ⟨rfl, hb4⟩
            have hat4 := (HAT.out.below (balloc2 wr (.cells #[.string ⟨(nb[kk]).name.toArray⟩, .int .i64 (nb[kk]).val.kind, .int .i64 (nb[kk]).val.int, .float .f64 (nb[kk]).val.num, .string ⟨(nb[kk]).val.text.toArray⟩, .bool (nb[kk]).val.yes] 87) (.cells #[.string ⟨(nb[kk]).name.toArray⟩, .int .i64 (nb[kk]).val.kind, .int .i64 (nb[kk]).val.int, .float .f64 (nb[kk]).val.num, .string ⟨(nb[kk]).val.text.toArray⟩, .bool (nb[kk]).val.yes] 87))).below hb4
            have hbr4 := btrans hbr (btrans (balloc2 wr (.cells #[.string ⟨(nb[kk]).name.toArray⟩, .int .i64 (nb[kk]).val.kind, .int .i64 (nb[kk]).val.int, .float .f64 (nb[kk]).val.num, .string ⟨(nb[kk]).val.text.toArray⟩, .bool (nb[kk]).val.yes] 87) (.cells #[.string ⟨(nb[kk]).name.toArray⟩, .int .i64 (nb[kk]).val.kind, .int .i64 (nb[kk]).val.int, .float .f64 (nb[kk]).val.num, .string ⟨(nb[kk]).val.text.toArray⟩, .bool (nb[kk]).val.yes] 87)) hb4)
            have hbx4 := ((BoxA.below (box_attr wr nb[kk] 87) (balloc _ (.cells #[.string ⟨(nb[kk]).name.toArray⟩, .int .i64 (nb[kk]).val.kind, .int .i64 (nb[kk]).val.int, .float .f64 (nb[kk]).val.num, .string ⟨(nb[kk]).val.text.toArray⟩, .bool (nb[kk]).val.yes] 87))).below hb4)
            have hs4 : wr.heap.size + 1 < w4.heap.size := size2 hb4
            have HAT4 := Lib.hid hat4; have HBR4 := Lib.hid hbr4
            obtain ⟨o0, o1, ofz, _, _, _, _, hown4, hsz4⟩ := hat4
            obtain ⟨q0, q1, q2, q3, q4, q5⟩ := hbx4
            have OWN4 := Lib.hid hown4
            clear v0 v1 v2 v3 v4 v5 hown4 hbr4 HAT HER hb4
            go_wp2_with (at_builtin; refine wpList_append_own _ rfl _ _ 54 rfl (w2.heap.size + 2) 87 i0 (.agg #[.string .empty, .int .i64 0, .int .i64 0, .float .f64 0, .string .empty, .bool false]) 6 64 Tryz.underlying54 hi hz0 hz1 hz2 rfl (by decide) (.slice ob acc.length oc) _ _ rfl (OWN4.out.alloc _) ⟨w4.heap.size, 0, none⟩ 1 1 (flatA [nb[kk]]) rfl rfl ?news (flatA_one _) (by unfold maxLen; omega) (by omega) (by simp; omega) ?_; rotate_left; (case news => exact new_attr w4 nb[kk] _); intro v' w6 hown' hgrow3 hnil3; have hown2 : w6.ownsRow (w2.heap.size + 2) 87 6 v' (acc ++ [nb[kk]]).length (flatA (acc ++ [nb[kk]])) := (by rw [flatA_app, List.length_append]; exact hown'); obtain ⟨b5, cp5, rfl, _⟩ := own_attrs hown2; have hrow : ∀ k, (Value.slice ob acc.length oc).ownBlock = some k → w2.heap.size + 2 ≤ k := (fun k hk => (OWN4.out.lt k hk).1); have hk5 := (HAT4.out.below (balloc w4 (.cells #[.string ⟨(nb[kk]).name.toArray⟩, .int .i64 (nb[kk]).val.kind, .int .i64 (nb[kk]).val.int, .float .f64 (nb[kk]).val.num, .string ⟨(nb[kk]).val.text.toArray⟩, .bool (nb[kk]).val.yes] 87))).kept hgrow3 hrow hown2; have g1 := hgrow3.block (w2.heap.size + 1) (by simp; omega) (fun e => by have := hrow _ e.symm; omega); have p1 := (World.cell?_of_block (a := ⟨w2.heap.size + 1, 1, none⟩) g1).trans ((World.cell?_alloc_past (w := w4) _ (w2.heap.size + 1) 1 (by omega)).trans o1); have pz := (World.frozen?_of_block (a := ⟨w2.heap.size + 1, 1, none⟩) g1).trans ((World.frozen?_alloc_past (w := w4) _ (w2.heap.size + 1) 1 (by omega)).trans ofz); have hbf : Below w2.heap.size w2 w6 := Below.grown (btrans HBR4.out (balloc _ _)) hgrow3 (by have := HBR4.out.size; simp; omega) (fun k hk => by have := hrow k hk; omega); have HK5 := Lib.hid hk5; have HBF := Lib.hid hbf; clear hk5 hbf hown2 hown' hgrow3 hnil3 g1 hrow o0 o1 ofz q0 q1 q2 q3 q4 q5)
            exact ⟨⟨kk + 1, _, by omega, by go_num, by rw [HEY.out h8 (by trivial)]; have hk := HK5.out; rw [show (acc ++ [nb[kk]]).length = acc.length + 1 by simp] at hk; exact hk, HBF.out.setCell (by simp) _⟩, by simp [intOf]; go_num⟩
      · have i1 : ¬ (kk : Int) < (nb.length : Int) := by omega
        obtain rfl : kk = nb.length := by omega
        rw [HEND.out] at hat
        obtain ⟨o0, o1, ofz, _, _, _, _, hown, _⟩ := hat
        obtain ⟨b0, cp, rfl, hat⟩ := own_attrs hown
        have OWN := Lib.hid hown; have HAT := Lib.hid hat; clear hown hat
        obtain ⟨⟨r0, r1⟩, rf0, rf1, hrl⟩ := HRES.out
        obtain ⟨hcr, hfr⟩ := bcell hbr
        replace r0 := (congrArg Option.isSome (hcr _ 0 hrl)).trans r0
        replace r1 := (congrArg Option.isSome (hcr _ 1 hrl)).trans r1
        replace rf0 := (hfr _ 0 hrl).trans rf0
        replace rf1 := (hfr _ 1 hrl).trans rf1
        have hbb := btrans HBW.out hbr
        obtain ⟨u0, hu0⟩ := Option.isSome_iff_exists.1 r0
        obtain ⟨u1, hu1⟩ := Option.isSome_iff_exists.1 r1
        clear r0 r1 hcr hfr hbr
        go_wp2
        have e0 : ((wr.setCell ⟨w.heap.size, 0, none⟩ (.string ⟨sc.toArray⟩)).setCell ⟨w.heap.size, 1, none⟩ (.slice b0 el.length cp)).cell? ⟨w.heap.size, 0, none⟩ = some (.string ⟨sc.toArray⟩) := (World.cell?_setCell_other _ _ _ _ (by simp)).trans (World.cell?_setCell_same _ _ _ hu0)
        have e1 : ((wr.setCell ⟨w.heap.size, 0, none⟩ (.string ⟨sc.toArray⟩)).setCell ⟨w.heap.size, 1, none⟩ (.slice b0 el.length cp)).cell? ⟨w.heap.size, 1, none⟩ = some (.slice b0 el.length cp) := World.cell?_setCell_same _ _ _ ((World.cell?_setCell_other _ _ _ _ (by simp)).trans hu1)
        have ow := ownsRow_setCell_below (a := ⟨w.heap.size, 1, none⟩) (ownsRow_setCell_below (a := ⟨w.heap.size, 0, none⟩) OWN.out (by show w.heap.size < w2.heap.size + 2; omega) (.string ⟨sc.toArray⟩)) (by show w.heap.size < w2.heap.size + 2; omega) (.slice b0 el.length cp)
        have hb9 := (hbb.setCell (p := ⟨w.heap.size, 0, none⟩) (by simp) (.string ⟨sc.toArray⟩)).setCell (p := ⟨w.heap.size, 1, none⟩) (by simp) (.slice b0 el.length cp)
        generalize World.setCell _ _ _ = W2 at *
        refine bodyPost_ret (v := ev sc b0 el.length cp) (by simp [results, Tryz.results28, go_sem, e0, e1]; try rfl) rfl ?_
        obtain ⟨b9, cp9, he, hat9⟩ := own_attrs ow
        cases he
        exact ⟨b0, ⟨cp, rfl⟩, hat9, hb9⟩
end Go.Proofs.YtceplbanfpnhbaaGreatDoor.Val
end

section
/- THE WALK OF fit of chapter 07's laws. -/
namespace Go.Proofs.YtceplbanfpnhbaaGreatDoor.Val
open Go.RowKit Flt
attribute [local go_sem] run_store_flt
def cX (op n : Int) : C := ⟨[120], op, ⟨0, n, 0, [], false⟩⟩
set_option maxHeartbeats 1000000 in
theorem fitx_any (op n : Int) (w : World) : Calls Tryz.prog 47 #[.int .i64 op, .int .i64 n] w fun e w' =>
    ∃ g, e = .returned (ev [97] (some ⟨g, 0, none⟩) 1 1) ∧ Conds w' (some ⟨g, 0, none⟩) [cX op n] ∧ Below w.heap.size w w' := by
  go_enter Tryz.func47, Tryz.ntmps47
  go_wp2_with fail
  have hcn := conds_one (w.alloc (.cells #[.string ⟨#[97]⟩, .slice (some ⟨w.heap.size + 1, 0, none⟩) 1 1] 24)) (cX op n) 31
  rw [World.size_alloc] at hcn
  refine bodyPost_ret (v := ev [97] (some ⟨w.heap.size + 1, 0, none⟩) 1 1) (by simp [results, Tryz.results47, go_sem]; try rfl) rfl ?_
  exact ⟨_, rfl, hcn, balloc2 _ _ _⟩
theorem conds_op {op n : Int} (h : 0 ≤ op ∧ op ≤ 7) : ∀ c ∈ [cX op n], 0 ≤ c.op ∧ c.op ≤ 7 := fun c hc => by rw [List.mem_singleton.1 hc]; exact h
theorem conds_num {op n : Int} : ∀ c ∈ [cX op n], c.val.num < 18446744073709551616 := fun c hc => by rw [List.mem_singleton.1 hc]; show 0 < _; decide
theorem cov_yes : fCovers [97] [cX 4 3] [97] [cX 4 5] = true := by decide +kernel
theorem cov_no : fCovers [97] [cX 4 5] [97] [cX 4 3] = false := by decide +kernel
theorem cprint_x3 (w : World) (hw : Words w) : Calls Tryz.prog 34 #[cc (cX 4 3)] w fun e w' => e = .returned (.string ⟨#[120, 32, 62, 32, 51]⟩) ∧ Below w.heap.size w w' :=
  (cprint_of [120] 4 0 3 0 [] false [51] w hw rfl (by decide) (by decide) print_3).mono fun _ _ ⟨h1, h2⟩ => ⟨h1, h2⟩
theorem fprint_x3 (g : Nat) (w : World) (hw : Words w) (h : Conds w (some ⟨g, 0, none⟩) [cX 4 3]) : Calls Tryz.prog 32 #[ev [97] (some ⟨g, 0, none⟩) 1 1] w fun e w' => e = .returned (.string ⟨#[97, 58, 32, 120, 32, 62, 32, 51]⟩) ∧ Below w.heap.size w w' :=
  (fprint_any [97] (some ⟨g, 0, none⟩) 1 [cX 4 3] (fun _ => [120, 32, 62, 32, 51]) w hw h (by decide) (by decide) (fun _ _ => by decide) (fun c hc W hW _ => by rw [List.mem_singleton.1 hc]; exact cprint_x3 W hW)).mono fun _ _ ⟨h1, h2⟩ => ⟨h1, h2⟩
set_option maxHeartbeats 1000000 in
theorem fit07_any (w : World) (hw : Words w) : Calls Tryz.prog 15 #[] w fun e w' => e = .returned (.bool true) ∧ Below w.heap.size w w' := by
  have HW := Lib.hid hw; clear hw
  have hcy (g1 g2 : Nat) (W : World) (h1 : Conds W (some ⟨g1, 0, none⟩) [cX 4 3]) (h2 : Conds W (some ⟨g2, 0, none⟩) [cX 4 5]) := fcovers_any [97] (some ⟨g1, 0, none⟩) 1 [cX 4 3] [97] (some ⟨g2, 0, none⟩) 1 [cX 4 5] W h1 h2 (by decide) (by decide) (by decide) (by decide) (conds_op ⟨by decide, by decide⟩) conds_num conds_num
  have hcn (g1 g2 : Nat) (W : World) (h1 : Conds W (some ⟨g1, 0, none⟩) [cX 4 5]) (h2 : Conds W (some ⟨g2, 0, none⟩) [cX 4 3]) := fcovers_any [97] (some ⟨g1, 0, none⟩) 1 [cX 4 5] [97] (some ⟨g2, 0, none⟩) 1 [cX 4 3] W h1 h2 (by decide) (by decide) (by decide) (by decide) (conds_op ⟨by decide, by decide⟩) conds_num conds_num
  rw [cov_yes] at hcy
  rw [cov_no] at hcn
  have HCY := Lib.hid hcy; have HCN := Lib.hid hcn
  clear hcy hcn
  go_enter Tryz.func15, Tryz.ntmps15
  go_wp2_with fail
  refine (fitx_any 4 3 _).mono ?_
  rintro e w1 ⟨g1, rfl, hc1, hb1⟩
  go_wp2_with fail
  refine (fitx_any 4 5 _).mono ?_
  rintro e w2 ⟨g2, rfl, hc2, hb2⟩
  go_wp2_with fail
  refine (HCY.out g1 g2 _ (hc1.below hb2) hc2).mono ?_
  rintro e w3 ⟨rfl, hb3⟩
  have b3 := btrans (btrans hb1 hb2) hb3
  clear hc1 hc2 hb1 hb2 hb3
  go_wp2_with fail
  refine (fitx_any 4 5 _).mono ?_
  rintro e w4 ⟨g4, rfl, hc4, hb4⟩
  go_wp2_with fail
  refine (fitx_any 4 3 _).mono ?_
  rintro e w5 ⟨g5, rfl, hc5, hb5⟩
  go_wp2_with fail
  refine (HCN.out g4 g5 _ (hc4.below hb5) hc5).mono ?_
  rintro e w6 ⟨rfl, hb6⟩
  have b6 := btrans (btrans (btrans b3 hb4) hb5) hb6
  clear hc4 hc5 hb4 hb5 hb6 b3
  go_wp2_with fail
  refine (fitx_any 4 3 _).mono ?_
  rintro e w7 ⟨g7, rfl, hc7, hb7⟩
  have b7 := btrans b6 hb7
  go_wp2_with fail
  refine (fprint_x3 g7 _ (HW.out.below b7) hc7).mono ?_
  rintro e w8 ⟨rfl, hb8⟩
  have b8 := btrans b7 hb8
  clear b6 b7 hb7 hb8 hc7
  go_wp2_with (first | (go_at_call 48; refine (word_any _ _ (HW.out.below b8)).mono ?_; rintro e w' ⟨rfl, rfl⟩) | (go_at_call 49; refine (Sc.right_l [97] _ (by decide)).mono ?_; rintro e w9 ⟨rfl, ⟨nd, rfl⟩⟩))
  go_ret
  exact ⟨rfl, bdrewN b8 _⟩
end Go.Proofs.YtceplbanfpnhbaaGreatDoor.Val
end
