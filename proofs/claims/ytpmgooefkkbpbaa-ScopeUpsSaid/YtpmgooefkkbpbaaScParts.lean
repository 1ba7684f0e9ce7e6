/- THE WALK OF parts: what stands between the /, as a slice of the call's own. -/
import Derived.Test.YtpmgooefkkbpbaaSc
namespace Go.Proofs.Ytpmgooefkkbpbaa.Sc
open Go.RowKit

def str (p : List UInt8) : Value := .string ⟨p.toArray⟩
/-- the parts' round: behind k letters -/
def PartsRel (l : List UInt8) (w : World) (out fr i : Value) (wr : World) : Prop :=
  ∃ (done : List (List UInt8)) (f k : Nat), wr.ownsRow w.heap.size 9 1 out done.length (done.map str) ∧ Below w.heap.size w wr ∧ fr = .int .i64 f ∧ i = .int .i64 k ∧ done.length ≤ k ∧
    ((k ≤ l.length ∧ f ≤ k ∧ parts l = done ++ parts (l.drop f) ∧ 47 ∉ (l.drop f).take (k - f)) ∨ (k = l.length + 1 ∧ parts l = done))
theorem rel_skip {l : List UInt8} {done : List (List UInt8)} {f k : Nat} (hk : k < l.length) (hf : f ≤ k) (hp : parts l = done ++ parts (l.drop f)) (hn : 47 ∉ (l.drop f).take (k - f)) (hc : ¬ l[k] = 47) :
    (k + 1 ≤ l.length ∧ f ≤ k + 1 ∧ parts l = done ++ parts (l.drop f) ∧ 47 ∉ (l.drop f).take (k + 1 - f)) := by
  refine ⟨by omega, by omega, hp, ?_⟩
  have e : k + 1 - f = (k - f) + 1 := by omega
  have hl : k - f < (l.drop f).length := by rw [List.length_drop]; omega
  rw [e, List.take_succ_eq_append_getElem hl]
  have e2 : (l.drop f)[k - f] = l[k] := by rw [List.getElem_drop]; congr 1; omega
  rw [e2]; simp [hn]; exact fun h => hc h.symm
theorem rel_cut {l : List UInt8} {done : List (List UInt8)} {f k : Nat} (hk : k < l.length) (hf : f ≤ k) (hp : parts l = done ++ parts (l.drop f)) (hn : 47 ∉ (l.drop f).take (k - f)) (hc : l[k] = 47) :
    parts l = (done ++ [(l.drop f).take (k - f)]) ++ parts (l.drop (k + 1)) := by
  have e : l.drop f = (l.drop f).take (k - f) ++ 47 :: l.drop (k + 1) := by
    have h1 : l.drop f = (l.drop f).take (k - f) ++ (l.drop f).drop (k - f) := (List.take_append_drop _ _).symm
    have h2 : (l.drop f).drop (k - f) = l.drop k := by rw [List.drop_drop]; congr 1; omega
    have h3 : l.drop k = 47 :: l.drop (k + 1) := by rw [List.drop_eq_getElem_cons hk, hc]
    rw [h2, h3] at h1; exact h1
  have h4 := parts_slash _ (l.drop (k + 1)) hn
  rw [← e] at h4
  rw [hp, h4]; simp
theorem rel_end {l : List UInt8} {done : List (List UInt8)} {f : Nat} (_hf : f ≤ l.length) (hp : parts l = done ++ parts (l.drop f)) (hn : 47 ∉ (l.drop f).take (l.length - f)) :
    parts l = done ++ [(l.drop f).take (l.length - f)] := by
  have e : (l.drop f).take (l.length - f) = l.drop f := List.take_of_length_le (by rw [List.length_drop]; omega)
  rw [e] at hn ⊢
  rw [hp, parts_none _ hn]
theorem extract_str (s : ByteArray) (f k : Nat) : Value.string (s.extract f k) = str ((s.data.toList.drop f).take (k - f)) := by
  unfold str; exact congrArg _ (of_data (Lib.extract_data s f k))
theorem infoStr : (Try.prog.info? 9).map (fun i => (i.zero, i.size, i.bytes)) = some (some (.string ⟨#[]⟩), 1, 16) := by kernel_rfl

/-- behind an append of one element laid in a box of its own -/
theorem below_append {W wr w1 : World} {B : Nat} {o : Obj} {v : Value} {e : TypeId} {size n : Nat} {xs : List Value} (hb : Below B W wr) (hB : B ≤ W.heap.size) (hown : wr.ownsRow B e size v n xs) (hg : (wr.alloc o).grownBy w1 v.ownBlock) : Below B W w1 :=
  (hb.alloc (Nat.le_trans hB hb.size) o).grown hg (by have := hb.size; simp; omega) (fun k hk => (hown.lt k hk.symm.symm).1)
theorem parts_close {l : List UInt8} {w w1 : World} {v' : Value} {done : List (List UInt8)} {p : List UInt8} {x : Value} (f' k' : Nat)
    (hx : x = str p) (hown : w1.ownsRow w.heap.size 9 1 v' (done.length + 1) (done.map str ++ [x])) (hb : Below w.heap.size w w1) (hdk : done.length + 1 ≤ k')
    (hst : (k' ≤ l.length ∧ f' ≤ k' ∧ parts l = (done ++ [p]) ++ parts (l.drop f') ∧ 47 ∉ (l.drop f').take (k' - f')) ∨ (k' = l.length + 1 ∧ parts l = done ++ [p])) (i j : Value) (hi : i = .int .i64 f') (hj : j = .int .i64 k') :
    PartsRel l w v' i j w1 := by
  subst hx
  exact ⟨done ++ [p], f', k', by simpa using hown, hb, hi, hj, by simpa using hdk, hst⟩
set_option maxHeartbeats 1000000 in
theorem parts_any (s : ByteArray) (w : World) (hs : s.size ≤ 1000000) :
    Calls Try.prog 9 #[.string s] w fun e w' => ∃ v, e = .returned v ∧ w'.ownsRow w.heap.size 9 1 v (parts s.data.toList).length ((parts s.data.toList).map str) ∧ Below w.heap.size w w' := by
  obtain ⟨i0, hi, hz0, hz1, hz2⟩ := info_parts infoStr
  have hsz : s.data.toList.length = s.size := by rw [Array.length_toList]; rfl
  have HSZ := Lib.hid hsz; clear hsz
  go_enter Try.func9, Try.ntmps9
  go_wp2
  go_loopw [3, 4, 9] (fun out fr i wr => PartsRel s.data.toList w out fr i wr) (fun _ _ i _ => s.size + 1 - (intOf i).toNat)
  case atStart => exact ⟨[], 0, 0, ⟨rfl, Or.inl ⟨rfl, rfl⟩⟩, Below.refl _ _, rfl, rfl, Nat.le_refl _, Or.inl ⟨Nat.zero_le _, Nat.le_refl _, rfl, by simp⟩⟩
  case round =>
    obtain ⟨done, f, k, hown, hb, rfl, rfl, hdk, hst⟩ := hrel
    rcases hst with ⟨hk, hf, hp, hn⟩ | ⟨hk, hp⟩
    · rw [HSZ.out] at hk
      have HP := Lib.hid hp; have HN := Lib.hid hn; clear hp hn
      have hex := extract_str s f k
      have HEX := Lib.hid hex; clear hex
      have c3 : done.length + 1 ≤ maxLen := by unfold maxLen; omega
      have C3 := Lib.hid c3; clear c3
      by_cases hlt : k < s.size
      · have hg : s.data.toList[k]'(by rw [HSZ.out]; exact hlt) = s[k] := by rw [Array.getElem_toList]; rfl
        have HG := Lib.hid hg; clear hg
        have hkn : ((k : Int) == (s.size : Int)) = false := by rw [beq_eq_false_iff_ne]; omega
        by_cases hc : s[k] = 47
        · have h47 : ((s[k].toNat : Int) == 47) = true := by rw [hc]; rfl
          have HC := Lib.hid hc; clear hc
          go_wp2_with (at_builtin; refine wpList_append_own _ rfl _ _ 23 rfl w.heap.size 9 i0 (.string ⟨#[]⟩) 1 16 Try.underlying23 hi hz0 hz1 hz2 rfl (by decide) _ _ _ rfl (hown.alloc _) ⟨wr.heap.size, 0, none⟩ 1 1 [.string (s.extract f k)] rfl rfl ?c1 ?c2 C3.out ?c4 ?c5 ?_)
          case c1 => exact cell_one_new _ _ _
          case c2 => simp [Value.oneCell']
          case c4 => omega
          case c5 => have := hb.size; simp; omega
          intro v' w1 hown' hgrow _
          have hb' := below_append hb (Nat.le_refl _) hown hgrow
          clear hown
          go_wp2
          refine ⟨parts_close (k + 1) (k + 1) HEX.out hown' hb' (by omega) (Or.inl ⟨by rw [HSZ.out]; omega, Nat.le_refl _, rel_cut (by rw [HSZ.out]; exact hlt) hf HP.out HN.out (by rw [HG.out]; exact HC.out), by simp⟩) _ _ (by go_num) (by go_num), by simp [intOf]; omega⟩
        · have h47 : ((s[k].toNat : Int) == 47) = false := by
            rw [beq47]; simpa using hc
          have HC := Lib.hid hc; clear hc
          go_wp2
          refine ⟨⟨done, f, k + 1, hown, hb, rfl, by go_num, by omega, Or.inl (rel_skip (by rw [HSZ.out]; exact hlt) hf HP.out HN.out (by rw [HG.out]; exact HC.out))⟩, by simp [intOf]; omega⟩
      · obtain rfl : k = s.size := by omega
        clear hlt
        go_wp2_with (at_builtin; refine wpList_append_own _ rfl _ _ 23 rfl w.heap.size 9 i0 (.string ⟨#[]⟩) 1 16 Try.underlying23 hi hz0 hz1 hz2 rfl (by decide) _ _ _ rfl (hown.alloc _) ⟨wr.heap.size, 0, none⟩ 1 1 [.string (s.extract f s.size)] rfl rfl ?c1 ?c2 C3.out ?c4 ?c5 ?_)
        case c1 => exact cell_one_new _ _ _
        case c2 => simp [Value.oneCell']
        case c4 => omega
        case c5 => have := hb.size; simp; omega
        intro v' w1 hown' hgrow _
        have hb' := below_append hb (Nat.le_refl _) hown hgrow
        clear hown
        go_wp2
        refine ⟨parts_close (s.size + 1) (s.size + 1) (by rw [HEX.out, ← HSZ.out]) hown' hb' (by omega) (Or.inr ⟨by rw [HSZ.out], rel_end (by rw [HSZ.out]; exact hf) HP.out (by rw [HSZ.out]; exact HN.out)⟩) _ _ (by go_num) (by go_num), by simp [intOf]⟩
    · have HP := Lib.hid hp; clear hp
      rw [HSZ.out] at hk
      subst hk
      go_wp2
      go_ret
      exact ⟨_, rfl, by rw [HP.out]; exact hown, hb⟩
end Go.Proofs.Ytpmgooefkkbpbaa.Sc
