/- THE WALK OF setDigits. -/
import Derived.Test.YtnccpddjdgndcaaGreatDoorFmt3
import Derived.Lib.ItoaMem
namespace Go.Proofs.YtnccpddjdgndcaaGreatDoor.Fmt
open Go.RowKit Go.Lib Go.Sort
theorem ret_pair2 {a b c d : Int} (h : a = c) (k : b = d) : Ending.returned (.tuple #[.int .i64 a, .int .i64 b]) = .returned (.tuple #[.int .i64 c, .int .i64 d]) := by rw [h, k]
/-- how many digits stay, the zeros at the end struck -/
def stripN (l : List UInt8) : Nat → Nat
  | 0 => 0
  | k + 1 => if l[k]! = 48 then stripN l k else k + 1
theorem stripN_le (l : List UInt8) (k : Nat) : stripN l k ≤ k := by
  induction k with
  | zero => exact Nat.le_refl _
  | succ k ih => unfold stripN; split <;> omega
theorem nDigits_le20 {u : Nat} (h : u < 18446744073709551616) : nDigits u ≤ 20 := by
  have hp := Lib.nDigits_pos u
  have := (Lib.numDigits_eq (if u = 0 then 1 else u) (by split <;> omega) (by split <;> omega))
  rcases Nat.lt_or_ge (nDigits u) 21 with h1 | h1
  · omega
  · exfalso
    have h2 : 10 ^ (nDigits u - 1) ≤ u := by
      rcases Nat.lt_or_ge u (10 ^ (nDigits u - 1)) with h3 | h3
      · exfalso
        have : ∀ (k u : Nat), u < 10 ^ k → 1 ≤ k → nDigits u ≤ k := by
          intro k
          induction k with
          | zero => intro u _ h; omega
          | succ k ih =>
            intro u hu _
            by_cases h10 : u < 10
            · rw [nDigits_small h10]; omega
            · rw [nDigits_big h10]
              have hk : 1 ≤ k := by
                rcases Nat.eq_zero_or_pos k with rfl | hk
                · simp at hu; omega
                · exact hk
              have := ih (u / 10) (by rw [Nat.pow_succ] at hu; omega) hk
              omega
        have := this (nDigits u - 1) u h3 (by omega)
        omega
      · exact h3
    have h3 : 10 ^ 20 ≤ 10 ^ (nDigits u - 1) := Nat.pow_le_pow_right (by decide) (by omega)
    have h4 : (10 : Nat) ^ 20 = 100000000000000000000 := by decide
    omega
def Buf0 (w : World) (b : Nat) : Prop := ∀ j, j < 32 → w.cell? ⟨b, j, none⟩ = some (.int .u8 0) ∧ w.frozen? ⟨b, j, none⟩ = false
theorem below_putRow (w : World) (b : Nat) (d : Array UInt8) : Below b w (putRow (fun (b : UInt8) => Value.int .u8 (b.toNat : Int)) w b 0 d) := by
  refine ⟨rfl, rfl, rfl, by simp, fun k hk => ?_⟩
  have : k ≠ b := by omega
  unfold putRow mapBlock
  simp only [Array.getElem?_modify, if_neg (Ne.symm this)]
theorem block_putRow (w : World) (b : Nat) (d : Array UInt8) (cs : Array Value) (t : TypeId) (h : w.heap[b]? = some (.cells cs t (0, 0))) :
    ∃ cs2, (putRow (fun (b : UInt8) => Value.int .u8 (b.toNat : Int)) w b 0 d).heap[b]? = some (.cells cs2 t (0, 0)) := by
  refine ⟨putCells (fun (b : UInt8) => Value.int .u8 (b.toNat : Int)) 0 d cs, ?_⟩
  unfold putRow mapBlock
  simp [Array.getElem?_modify, h, onCells]
set_option maxRecDepth 20000 in
set_option maxHeartbeats 2000000 in
theorem setDigits_any (b u : Nat) (p : Int) (w : World) (cs0 : Array Value) (t : TypeId) (hblk : w.heap[b]? = some (.cells cs0 t (0, 0))) (hz : Buf0 w b) (h2 : u < 18446744073709551616) (hp : -100000 ≤ p) (hp2 : p ≤ 100000) :
    Calls Tryz.prog 128 #[.slice (some ⟨b, 0, none⟩) 32 32, .int .u64 u, .int .i64 p, .int .i64 (nDigits u : Nat)] w fun e w' =>
      e = .returned (.tuple #[.int .i64 ((nDigits u : Nat) + p), .int .i64 (stripN (decDigits u) (nDigits u) : Nat)]) ∧ (∀ j (h : j < (decDigits u).length), w'.cell? ⟨b, j, none⟩ = some (.int .u8 ((decDigits u)[j].toNat : Int))) ∧ Below b w w' ∧ ∃ cs, w'.heap[b]? = some (.cells cs t (0, 0)) := by
  have hn := nDigits_le20 h2
  have hn1 := nDigits_pos u
  have hdl := decDigits_length u
  have hH : Holds (fun (b : UInt8) => Value.int .u8 (b.toNat : Int)) w b 0 (Array.replicate (nDigits u) 0) := fun j hj => by
    rw [Array.size_replicate] at hj
    have := hz j (by omega)
    rw [Nat.zero_add, getElem!_pos _ j (by rw [Array.size_replicate]; exact hj), Array.getElem_replicate]
    exact this
  have hfb : Calls Tryz.prog 89 #[.slice (some ⟨b, 0, none⟩) (nDigits u) 32, .int .u64 u] w fun e w' =>
      e = .returned (.tuple #[]) ∧ (∀ j (h : j < (decDigits u).length), w'.cell? ⟨b, j, none⟩ = some (.int .u8 ((decDigits u)[j].toNat : Int))) ∧ Below b w w' ∧ ∃ cs, w'.heap[b]? = some (.cells cs t (0, 0)) := by
    have h := Tryz.internal_strconv_formatBase10 b 0 32 u (Array.replicate (nDigits u) 0) w hH (by rw [Array.size_replicate]; exact lt_pow_nDigits u) h2 (by rw [Array.size_replicate]; omega)
    rw [Array.size_replicate] at h
    refine h.mono ?_
    rintro e w1 ⟨he, n, v', dk, rfl, hinv⟩
    have hsz : dk.size = nDigits u := hinv.size
    refine ⟨he, fun j hj => ?_, (below_putRow w b dk).trans ⟨rfl, rfl, rfl, Nat.le_refl _, fun _ _ => rfl⟩, block_putRow w b dk cs0 t hblk⟩
    have := cell?_putRow (fun (b : UInt8) => Value.int .u8 (b.toNat : Int)) w b 0 _ dk hH (by rw [hsz, Array.size_replicate]) j (by omega)
    rw [Nat.zero_add] at this
    rw [row_is_numeral hinv j hj]
    exact this
  have HFB := Lib.hid hfb
  clear hfb hH hz h2 hblk
  generalize hL : decDigits u = L at *
  have HL := Lib.hid hL; clear hL
  generalize nDigits u = nd at *
  go_enter Tryz.func128, Tryz.ntmps128
  go_wp2_with fail
  refine HFB.out.mono ?_; rintro e w1 ⟨rfl, hc, hb, hk⟩
  have HC := Lib.hid hc; have HB := Lib.hid hb; have HKK := Lib.hid hk
  clear hc hb hk
  go_wp2_with fail
  go_loopw [3] (fun vk wr => ∃ k : Nat, k ≤ nd ∧ vk = .int .i64 k ∧ Hid (stripN L k = stripN L nd) ∧ wr = w1) (fun vk _ => (RowKit.intOf vk).toNat)
  case atStart => exact ⟨nd, Nat.le_refl _, rfl, Lib.hid rfl, rfl⟩
  case round =>
    obtain ⟨k, hk, rfl, HK, rfl⟩ := hrel
    cases k with
    | zero =>
      have hs := HK.out
      have HS := Lib.hid hs; clear hs HK
      go_wp2
      go_ret2
      exact ⟨by rw [← HS.out]; rfl, fun j h => HC.out j h, HB.out, HKK.out⟩
    | succ j =>
      have hjl : j < L.length := by omega
      have c0 := HC.out j hjl
      have hst : stripN L (j + 1) = if L[j] = 48 then stripN L j else j + 1 := by
        conv => lhs; unfold stripN
        rw [getElem!_pos L j hjl]
      have j0 : (0 : Int) < ((j + 1 : Nat) : Int) := by omega
      have j1 : (j : Int) < 32 := by omega
      have HST := Lib.hid hst; clear hst
      by_cases h48 : L[j] = 48
      · have hb : ((L[j].toNat : Int) == 48) = true := by rw [h48]; rfl
        have HK2 : Hid (stripN L j = stripN L nd) := Lib.hid (by rw [← HK.out, HST.out, if_pos h48])
        clear HK HST h48
        go_wp2_with fail
        exact ⟨⟨j, by omega, rfl, HK2, trivial⟩, by simp [RowKit.intOf]⟩
      · have hb : ((L[j].toNat : Int) == 48) = false := by
          rw [beq_eq_false_iff_ne]; intro h; exact h48 (UInt8.toNat_inj.1 (by show L[j].toNat = 48; omega))
        have HR : Hid (stripN L nd = j + 1) := Lib.hid (by rw [← HK.out, HST.out, if_neg h48])
        clear HK HST h48
        go_wp2_with fail
        go_ret2
        refine ⟨ret_pair2 (a := (nd : Int) + p) (b := ((j + 1 : Nat) : Int)) (c := (nd : Int) + p) (d := (stripN L nd : Nat)) rfl (by rw [HR.out]), fun j h => ?_, HB.out, HKK.out⟩
        exact HC.out j h
end Go.Proofs.YtnccpddjdgndcaaGreatDoor.Fmt
