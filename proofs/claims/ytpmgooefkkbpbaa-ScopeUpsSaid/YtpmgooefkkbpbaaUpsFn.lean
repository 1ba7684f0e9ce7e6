/- PLAIN LAW OF GOING UP A SCOPE: the scopes that one is below, the nearest first. No program in sight. -/
import Derived.Test.YtpmgooefkkbpbaaScFn
namespace Go.Proofs.Ytpmgooefkkbpbaa.Sc
theorem chs_plain : ∀ (l : List UInt8) (i : Nat), chsOk i l = true → 47 ∉ l
  | [], _, _ => by simp
  | c :: l, i, h => by
    unfold chsOk at h
    rw [Bool.and_eq_true] at h
    have h2 := chs_plain l (i + 1) h.2
    have h1 : c ≠ 47 := fun e => by
      have := h.1
      unfold chOk at this
      subst e
      simp at this
    simp only [List.mem_cons, not_or]
    exact ⟨fun e => h1 e.symm, h2⟩
theorem name_plain {p : List UInt8} (h : nameB p = true) : p ≠ [] ∧ 47 ∉ p := by
  unfold nameB at h
  rw [Bool.and_eq_true, Bool.and_eq_true] at h
  exact ⟨fun e => by subst e; simp at h, chs_plain p 0 h.1.1⟩
/-- a list of names: none empty, none with a / -/
def Names (ps : List (List UInt8)) : Prop := ∀ p ∈ ps, p ≠ [] ∧ 47 ∉ p
theorem parts_join : ∀ ps : List (List UInt8), ps ≠ [] → Names ps → parts (join ps) = ps
  | [], h, _ => absurd rfl h
  | [p], _, hn => by rw [join]; exact parts_none p (hn p (by simp)).2
  | p :: q :: t, _, hn => by
    rw [join, parts_slash _ _ (hn p (by simp)).2, parts_join (q :: t) (by simp) (fun x hx => hn x (by simp [List.mem_cons.1 hx]))]
theorem join_snoc (ps : List (List UInt8)) (p : List UInt8) (h : ps ≠ []) : join (ps ++ [p]) = join ps ++ 47 :: p := by
  rw [join_append ps [p] h (by simp)]; rfl
theorem take_snoc {ps : List (List UInt8)} {k : Nat} (hk : k < ps.length) : ps.take (k + 1) = ps.take k ++ [ps[k]] := List.take_succ_eq_append_getElem hk
theorem take_ne {ps : List (List UInt8)} {k : Nat} (h0 : 0 < k) (hk : k ≤ ps.length) : ps.take k ≠ [] := by
  intro h; have := congrArg List.length h; rw [List.length_take, List.length_nil] at this; omega
theorem names_take {ps : List (List UInt8)} (hn : Names ps) (k : Nat) : Names (ps.take k) := fun p hp => hn p (List.mem_of_mem_take hp)
/-- the text of the first j names -/
def upJ (s : List UInt8) (j : Nat) : List UInt8 := join ((parts s).take j)
theorem upJ_zero (s : List UInt8) : upJ s 0 = [] := rfl
theorem upJ_one (s : List UInt8) (h : 1 ≤ (parts s).length) : upJ s 1 = (parts s)[0] := by
  unfold upJ
  rw [show (1 : Nat) = 0 + 1 from rfl, take_snoc h]; rfl
theorem upJ_succ (s : List UInt8) (j : Nat) (h0 : 0 < j) (h : j < (parts s).length) : upJ s (j + 1) = upJ s j ++ 47 :: (parts s)[j] := by
  unfold upJ
  rw [take_snoc h, join_snoc _ _ (take_ne h0 (Nat.le_of_lt h))]
theorem upJ_all (s : List UInt8) : upJ s (parts s).length = s := by unfold upJ; rw [List.take_length, join_parts]
theorem upJ_lt (s : List UInt8) (hn : Names (parts s)) (j : Nat) (h : j < (parts s).length) : (upJ s j).length < (upJ s (j + 1)).length := by
  by_cases h0 : j = 0
  · subst h0
    rw [upJ_zero, upJ_one s h]
    exact List.length_pos_iff.2 (hn _ (List.getElem_mem h)).1
  · rw [upJ_succ s j (by omega) h, List.length_append, List.length_cons]; omega
theorem upJ_ne (s : List UInt8) (hn : Names (parts s)) (j : Nat) (h0 : 0 < j) (h : j ≤ (parts s).length) : upJ s j ≠ [] := by
  intro e
  have := upJ_lt s hn (j - 1) (by omega)
  rw [show j - 1 + 1 = j by omega, e] at this
  simp at this
theorem upJ_under (s : List UInt8) (j : Nat) (h : j ≤ (parts s).length) : underB s (upJ s j) = true := by
  rw [under_iff]
  by_cases h0 : j = 0
  · subst h0; exact .inl rfl
  by_cases h1 : j = (parts s).length
  · subst h1; exact .inr (.inl (upJ_all s).symm)
  · refine .inr (.inr ⟨join ((parts s).drop j), ?_⟩)
    have hd : (parts s).drop j ≠ [] := by intro e; have := congrArg List.length e; rw [List.length_drop, List.length_nil] at this; omega
    have := join_append _ _ (take_ne (ps := parts s) (k := j) (by omega) h) hd
    rw [List.take_append_drop, join_parts] at this
    exact this
theorem upJ_parts (s : List UInt8) (hn : Names (parts s)) (j : Nat) (h0 : 0 < j) (h : j ≤ (parts s).length) : parts (upJ s j) = (parts s).take j :=
  parts_join _ (take_ne h0 h) (names_take hn j)
/-- how many names -/
def upN (s : List UInt8) : Nat := if s.isEmpty then 0 else (parts s).length
/-- ALL THAT GOING UP TELLS -/
def ups (s : List UInt8) : List (List UInt8) := (List.range (upN s + 1)).map fun k => upJ s (upN s - k)
theorem ups_len (s : List UInt8) : (ups s).length = upN s + 1 := by unfold ups; simp
theorem ups_at (s : List UInt8) (k : Nat) (h : k < upN s + 1) : (ups s)[k]? = some (upJ s (upN s - k)) := by
  unfold ups
  rw [List.getElem?_map, List.getElem?_range h]; rfl
theorem upN_le (s : List UInt8) : upN s ≤ (parts s).length := by unfold upN; split <;> omega
theorem up_zero (s : List UInt8) : upJ s (upN s) = s := by
  unfold upN
  cases h : s.isEmpty
  · exact upJ_all s
  · have : s = [] := by cases s <;> simp_all
    subst this; rfl
/-- the next one -/
theorem pre_at {s : List UInt8} {pre : List (List UInt8)} {x : List UInt8} (h : (pre ++ [x]) <+: ups s) : pre.length ≤ upN s ∧ x = upJ s (upN s - pre.length) ∧ (∀ p, pre.getLast? = some p → p = upJ s (upN s - pre.length + 1) ∧ 0 < pre.length) := by
  obtain ⟨post, e⟩ := h
  have hl := congrArg List.length e
  rw [ups_len] at hl
  simp only [List.length_append, List.length_cons, List.length_nil] at hl
  refine ⟨by omega, ?_, fun p hp => ?_⟩
  · have h1 := ups_at s pre.length (by omega)
    rw [← e, List.append_assoc, List.getElem?_append_right (Nat.le_refl _)] at h1
    simpa using h1
  · have hne : 0 < pre.length := List.length_pos_iff.2 (fun e => by rw [e] at hp; cases hp)
    refine ⟨?_, hne⟩
    have h1 := ups_at s (pre.length - 1) (by omega)
    rw [← e, List.append_assoc, List.getElem?_append_left (by omega)] at h1
    rw [List.getLast?_eq_getElem?] at hp
    rw [hp, Option.some.injEq] at h1
    rw [h1]; congr 1; omega
/-- what a round of ScopeUps finds -/
theorem ups_round {s : List UInt8} (hn : s.isEmpty = false → Names (parts s)) {pre : List (List UInt8)} {x : List UInt8} (h : (pre ++ [x]) <+: ups s) :
    underB s x = true ∧ x.length < ((pre.getLast?).getD (s ++ [47])).length ∧ x.length ≤ s.length ∧ (pre.length < upN s → x ≠ []) ∧ (pre.length = upN s → x = []) := by
  obtain ⟨h1, rfl, h3⟩ := pre_at h
  have hle := upN_le s
  refine ⟨upJ_under s _ (by omega), ?_, ?_, ?_, ?_⟩
  · cases hp : pre.getLast? with
    | none =>
      have : pre = [] := List.getLast?_eq_none_iff.1 hp
      subst this
      rw [List.length_nil, Nat.sub_zero, up_zero]; simp
    | some p =>
      obtain ⟨h4, h5⟩ := h3 p hp
      rw [Option.getD_some, h4]
      have he : s.isEmpty = false := by
        cases he : s.isEmpty
        · rfl
        · unfold upN at h1; rw [he] at h1; simp at h1; rw [h1] at h5; simp at h5
      have hp1 := List.length_pos_iff.2 (parts_ne s)
      exact upJ_lt s (hn he) _ (by omega)
  · have hu := upJ_under s (upN s - pre.length) (by omega)
    rw [under_iff] at hu
    rcases hu with h | h | ⟨r, h⟩
    · rw [h]; exact Nat.zero_le _
    · rw [← h]; exact Nat.le_refl _
    · have := congrArg List.length h; rw [List.length_append, List.length_cons] at this; omega
  · intro hlt
    have he : s.isEmpty = false := by
      cases he : s.isEmpty
      · rfl
      · unfold upN at hlt; rw [he] at hlt; simp at hlt
    exact upJ_ne s (hn he) _ (by omega) (by omega)
  · intro e; rw [e, Nat.sub_self]; rfl
theorem names_right {s : List UInt8} (h : rightB s = true) : s.isEmpty = false → Names (parts s) := fun he p hp => by
  unfold rightB at h
  rw [he] at h
  simp only [Bool.false_or, Bool.and_eq_true, List.all_eq_true] at h
  have hb := h.1 p hp
  exact name_plain hb
theorem right_up {s : List UInt8} (h : rightB s = true) (j : Nat) (hj : j ≤ (parts s).length) : rightB (upJ s j) = true := by
  cases he : s.isEmpty
  · by_cases h0 : j = 0
    · subst h0; rfl
    have hn := names_right h he
    unfold rightB
    rw [upJ_parts s hn j (by omega) hj]
    unfold rightB at h
    rw [he] at h
    simp only [Bool.false_or, Bool.and_eq_true, List.all_eq_true, decide_eq_true_eq] at h
    rw [Bool.or_eq_true, Bool.and_eq_true, List.all_eq_true, decide_eq_true_eq, List.length_take]
    exact .inr ⟨fun p hp => h.1 p (List.mem_of_mem_take hp), by omega⟩
  · have : s = [] := by cases s <;> simp_all
    subst this
    have : j = 0 ∨ j = 1 := by simp [parts] at hj; omega
    rcases this with rfl | rfl <;> rfl
/-- what is told is just what one is below -/
theorem ups_mem (s t : List UInt8) : t ∈ ups s ↔ underB s t = true := by
  constructor
  · intro h
    unfold ups at h
    obtain ⟨k, _, rfl⟩ := List.mem_map.1 h
    exact upJ_under s _ (by have := upN_le s; omega)
  · intro h
    have key : ∀ j, j ≤ upN s → t = upJ s j → t ∈ ups s := fun j hj e => by
      unfold ups
      refine List.mem_map.2 ⟨upN s - j, List.mem_range.2 (by omega), ?_⟩
      rw [e]; congr 1; omega
    rw [under_iff] at h
    rcases h with rfl | rfl | ⟨r, rfl⟩
    · exact key 0 (Nat.zero_le _) rfl
    · exact key (upN s) (Nat.le_refl _) (up_zero s).symm
    · have hp := parts_append t r
      refine key (parts t).length ?_ ?_
      · unfold upN
        have : (t ++ 47 :: r).isEmpty = false := by cases t <;> rfl
        rw [this, hp, List.length_append]; simp
      · unfold upJ
        rw [hp, List.take_left', join_parts]; rfl
/-- where the last / stands -/
theorem last_slash {s : List UInt8} (hn : s.isEmpty = false → Names (parts s)) (k : Nat) (hk : k < upN s) :
    (upN s - k = 1 ∧ 47 ∉ upJ s (upN s - k) ∧ upJ s (upN s - (k + 1)) = []) ∨ (∃ b, upJ s (upN s - k) = upJ s (upN s - (k + 1)) ++ 47 :: b ∧ 47 ∉ b) := by
  have he : s.isEmpty = false := by
    cases he : s.isEmpty
    · rfl
    · unfold upN at hk; rw [he] at hk; simp at hk
  have hN := hn he
  have hle := upN_le s
  by_cases h1 : upN s - k = 1
  · have h0 : 1 ≤ (parts s).length := by omega
    refine .inl ⟨h1, ?_, ?_⟩
    · rw [h1, upJ_one s h0]; exact (hN _ (List.getElem_mem _)).2
    · rw [show upN s - (k + 1) = 0 by omega]; rfl
  · refine .inr ⟨(parts s)[upN s - (k + 1)]'(by omega), ?_, (hN _ (List.getElem_mem _)).2⟩
    have := upJ_succ s (upN s - (k + 1)) (by omega) (by omega)
    rw [show upN s - (k + 1) + 1 = upN s - k by omega] at this
    exact this
end Go.Proofs.Ytpmgooefkkbpbaa.Sc
