/- THE DIGITS THAT ARE WRITTEN: the numeral, the zeros at its end struck. No walk. -/
import Derived.Test.YtnccpddjdgndcaaGreatDoorFmt6
import Derived.Test.YtnccpddjdgndcaaGreatDoorFmtD
namespace Go.Proofs.YtnccpddjdgndcaaGreatDoor.Fmt
open Go.RowKit Go.Lib
theorem first_digit (u : Nat) (h : 1 ≤ u) : ∃ d l, decDigits u = d :: l ∧ d ≠ 48 := by
  induction u using Nat.strongRecOn with
  | _ u ih =>
    by_cases h1 : u < 10
    · refine ⟨UInt8.ofNat (48 + u), [], decDigits_one h1, ?_⟩
      intro e
      have e2 := congrArg UInt8.toNat e
      have : (UInt8.ofNat (48 + u)).toNat = (48 + u) % 256 := rfl
      rw [this] at e2
      have : (48 : UInt8).toNat = 48 := rfl
      omega
    · obtain ⟨d, l, e, hd⟩ := ih (u / 10) (by omega) (by omega)
      exact ⟨d, l ++ [UInt8.ofNat (48 + u % 10)], by rw [decDigits, dif_neg h1, e]; rfl, hd⟩
theorem stripN_pos (d : UInt8) (l : List UInt8) (hd : d ≠ 48) (k : Nat) (hk : 1 ≤ k) : 1 ≤ stripN (d :: l) k := by
  induction k with
  | zero => omega
  | succ k ih =>
    unfold stripN
    split
    · rename_i h
      rcases Nat.eq_zero_or_pos k with rfl | hk0
      · exact absurd h (by simpa using hd)
      · exact ih hk0
    · omega
/-- the digits of a number, no zeros at the end -/
def digs (u : Nat) : List UInt8 := (decDigits u).take (stripN (decDigits u) (nDigits u))
theorem digs_len (u : Nat) : (digs u).length = stripN (decDigits u) (nDigits u) := by
  unfold digs
  rw [List.length_take, decDigits_length]
  exact Nat.min_eq_left (stripN_le _ _)
theorem digs_pos (u : Nat) (h : 1 ≤ u) : 1 ≤ (digs u).length := by
  obtain ⟨d, l, e, hd⟩ := first_digit u h
  rw [digs_len, e]
  exact stripN_pos d l hd _ (nDigits_pos u)
theorem digs_le (u : Nat) (h : u < 18446744073709551616) : (digs u).length ≤ 20 := by
  rw [digs_len]
  exact Nat.le_trans (stripN_le _ _) (Fmt.nDigits_le20 h)
/-- what lies in the buffer, as the digits -/
theorem dig_of {w : World} {g : Nat} {cs : Array Value} {t : TypeId} {u : Nat} (hb : w.heap[g]? = some (.cells cs t (0, 0)))
    (hc : ∀ j (h : j < (decDigits u).length), w.cell? ⟨g, j, none⟩ = some (.int .u8 ((decDigits u)[j].toNat : Int))) : Dig cs (digs u) := by
  intro j hj
  have hl : j < (decDigits u).length := by
    have : (digs u).length ≤ (decDigits u).length := by unfold digs; rw [List.length_take]; exact Nat.min_le_right _ _
    omega
  have h := hc j hl
  rw [cell_of_row w g j cs t (0, 0) hb] at h
  rw [h]
  congr 1
  unfold e8
  have : (digs u)[j] = (decDigits u)[j] := List.getElem_take (h := hj)
  rw [this]
end Go.Proofs.YtnccpddjdgndcaaGreatDoor.Fmt
