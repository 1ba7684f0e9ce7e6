/- THE WALKS OF scope.Up, its iterator, and what it reads: where the last / stands. -/
import Derived.Test.YtpmgooefkkbpbaaSc
import Derived.Test.YtpmgooefkkbpbaaUpsFn
import Derived.Test.YtpmgooefkkbpbaaRangeCell
import Derived.RangeFuncNested
import Derived.RangeFuncBound
import Derived.RangeFuncCalls
import Derived.RangeFuncLeaves
import Derived.Shelf.Abstract
import Derived.Shelf.RegionOpen
import Derived.OwnWalkIn
import Derived.TacticsInMore
import Derived.LoopNIn
import Derived.LoopIn
import Derived.BigQuiet
import Derived.Deep.QuietTactic
import Derived.Handy
namespace Go.Proofs.Ytpmgooefkkbpbaa.Sc
open Go.RowKit Go.Shelf
/-- a text's letter by its place -/
theorem byte_at (l : List UInt8) (k : Nat) (h : k < (⟨l.toArray⟩ : ByteArray).size) : ((⟨l.toArray⟩ : ByteArray)[k]'h) = l[k]'h := by
  show l.toArray[k]'h = _
  simp
set_option maxHeartbeats 1000000 in
theorem lix_none (l : List UInt8) (w : World) (hl : l.length ≤ 1000000) (h : 47 ∉ l) :
    Calls Try.prog 20 #[.string ⟨l.toArray⟩, .int .u8 47] w fun e w' => e = .returned (.int .i64 (-1)) ∧ w = w' := by
  have hz : (⟨l.toArray⟩ : ByteArray).size = l.length := by show l.toArray.size = _; simp
  go_enter Try.func20, Try.ntmps20
  go_wp2
  go_loop [5] (fun i => ∃ k : Nat, k ≤ l.length ∧ i = .int .i64 ((k : Int) - 1)) (fun i => (intOf i + 1).toNat)
  case atStart => exact ⟨l.length, Nat.le_refl _, by first | rfl | go_num⟩
  case round =>
    obtain ⟨k, hk, rfl⟩ := hrel
    by_cases h0 : 0 < k
    · obtain ⟨j, rfl⟩ : ∃ j, k = j + 1 := ⟨k - 1, by omega⟩
      have hj : j < (⟨l.toArray⟩ : ByteArray).size := by rw [hz]; omega
      have hne : ((((⟨l.toArray⟩ : ByteArray)[j]'hj).toNat : Int) == 47) = false := by
        rw [beq47, byte_at]
        simp only [beq_eq_false_iff_ne]
        exact fun e => h (by rw [← e]; exact List.getElem_mem _)
      have e1 : ((↑(j + 1) : Int) - 1) = (j : Int) := by omega
      rw [e1]
      have HZ := Lib.hid hz; clear hz e1 h
      go_wp2
      exact ⟨⟨j, by omega, rfl⟩, by simp [intOf]⟩
    · obtain rfl : k = 0 := by omega
      go_wp2
      go_ret
      exact ⟨rfl, rfl⟩
set_option maxHeartbeats 1000000 in
theorem lix_some (a b : List UInt8) (w : World) (hl : a.length + b.length ≤ 1000000) (h : 47 ∉ b) :
    Calls Try.prog 20 #[.string ⟨(a ++ 47 :: b).toArray⟩, .int .u8 47] w fun e w' => e = .returned (.int .i64 (a.length : Int)) ∧ w = w' := by
  have hz : (⟨(a ++ 47 :: b).toArray⟩ : ByteArray).size = a.length + b.length + 1 := by show (a ++ 47 :: b).toArray.size = _; simp; omega
  go_enter Try.func20, Try.ntmps20
  go_wp2
  go_loop [5] (fun i => ∃ k : Nat, k ≤ a.length + b.length ∧ a.length ≤ k ∧ i = .int .i64 (k : Int)) (fun i => (intOf i + 1).toNat)
  case atStart => exact ⟨a.length + b.length, Nat.le_refl _, by omega, by first | rfl | go_num⟩
  case round =>
    obtain ⟨k, hk, hak, rfl⟩ := hrel
    have hj : k < (⟨(a ++ 47 :: b).toArray⟩ : ByteArray).size := by rw [hz]; omega
    by_cases h0 : a.length = k
    · subst h0
      have he : ((((⟨(a ++ 47 :: b).toArray⟩ : ByteArray)[a.length]'hj).toNat : Int) == 47) = true := by
        rw [beq47, byte_at]; simp
      have HZ := Lib.hid hz; clear hz h
      go_wp2
      go_ret
      exact ⟨rfl, rfl⟩
    · have hne : ((((⟨(a ++ 47 :: b).toArray⟩ : ByteArray)[k]'hj).toNat : Int) == 47) = false := by
        rw [beq47, byte_at]
        simp only [beq_eq_false_iff_ne]
        intro e
        have hm : (a ++ 47 :: b)[k]'(by simp; omega) = b[k - (a.length + 1)]'(by omega) := by
          rw [List.getElem_append_right (by omega), List.getElem_cons]
          rw [dif_neg (by omega)]
          congr 1
        rw [hm] at e
        exact h (by rw [← e]; exact List.getElem_mem _)
      have HZ := Lib.hid hz; clear hz h
      go_wp2
      exact ⟨⟨k - 1, by omega, by omega, by first | rfl | go_num⟩, by simp [intOf]⟩
theorem slice_head (a r : List UInt8) : (⟨(a ++ r).toArray⟩ : ByteArray).extract 0 a.length = ⟨a.toArray⟩ := by
  apply of_data; rw [Lib.Pa.extract_upto_list]; simp
/-- where the next one ends -/
theorem next_any {s : List UInt8} (hn : s.isEmpty = false → Names (parts s)) (hl : s.length ≤ 1000000) (k : Nat) (hk : k < upN s) :
    ∃ z : Int, (∀ w, Calls Try.prog 17 #[.string ⟨(upJ s (upN s - k)).toArray⟩, .int .u8 47] w fun e w' => e = .returned (.int .i64 z) ∧ w = w') ∧ -1 ≤ z ∧ max z 0 = ((upJ s (upN s - (k + 1))).length : Int) ∧
      (⟨(upJ s (upN s - k)).toArray⟩ : ByteArray).extract 0 (upJ s (upN s - (k + 1))).length = ⟨(upJ s (upN s - (k + 1))).toArray⟩ ∧ (upJ s (upN s - (k + 1))).length ≤ (upJ s (upN s - k)).length := by
  have hle := upN_le s
  have hlen : ∀ j, j ≤ (parts s).length → (upJ s j).length ≤ s.length := fun j hj => by
    have hu := upJ_under s j hj
    rw [under_iff] at hu
    rcases hu with h | h | ⟨r, h⟩
    · rw [h]; exact Nat.zero_le _
    · rw [← h]; exact Nat.le_refl _
    · have := congrArg List.length h; rw [List.length_append, List.length_cons] at this; omega
  have h1 := hlen (upN s - k) (by omega)
  rcases last_slash hn k hk with ⟨_, hno, he⟩ | ⟨b, he, hb⟩
  · refine ⟨-1, fun w => ?_, by omega, by rw [he]; rfl, ?_, by rw [he]; exact Nat.zero_le _⟩
    · have HL := Lib.hid (fun w => lix_none (upJ s (upN s - k)) w (by omega) hno)
      generalize upJ s (upN s - k) = x at *
      clear he hno h1 hlen
      go_enter Try.func17, Try.ntmps17
      go_wp2_with (go_at_call 20; refine (HL.out _).mono ?_; rintro e w' ⟨rfl, rfl⟩)
      go_ret
      exact ⟨rfl, rfl⟩
    · rw [he]; exact slice_head [] _
  · have hbl : (upJ s (upN s - (k + 1))).length + b.length + 1 = (upJ s (upN s - k)).length := by rw [he]; simp; omega
    refine ⟨((upJ s (upN s - (k + 1))).length : Int), fun w => ?_, by omega, ?_, ?_, by omega⟩
    · have HL := Lib.hid (fun w => lix_some (upJ s (upN s - (k + 1))) b w (by omega) hb)
      rw [he]
      generalize upJ s (upN s - (k + 1)) = x at *
      clear he hb h1 hlen hbl
      go_enter Try.func17, Try.ntmps17
      go_wp2_with (go_at_call 20; refine (HL.out _).mono ?_; rintro e w' ⟨rfl, rfl⟩)
      go_ret
      exact ⟨rfl, rfl⟩
    · show max ((upJ s (upN s - (k + 1))).length : Int) 0 = _
      omega
    · rw [he]; exact slice_head _ _
set_option maxHeartbeats 400000 in
theorem up_any (s : List UInt8) (w : World) : Calls Try.prog 13 #[.string ⟨s.toArray⟩] w fun e w' => e = .returned (.func (.func 16) #[] #[.pointer (some ⟨w.heap.size, 0, none⟩)]) ∧ w' = w.alloc (.cells #[.string ⟨s.toArray⟩] 9) := by
  go_enter Try.func13, Try.ntmps13
  go_wp2
  go_ret
  exact ⟨rfl, rfl⟩
/-- how long the text in a box is -/
def boxLen (b : Nat) (w : World) : Nat := match w.cell? ⟨b, 0, none⟩ with
  | some (.string s) => s.size
  | _ => 0
theorem boxLen_at {b : Nat} {w : World} {l : List UInt8} (h : w.cell? ⟨b, 0, none⟩ = some (.string ⟨l.toArray⟩)) : boxLen b w = l.length := by
  unfold boxLen; rw [h]; show l.toArray.size = _; simp
theorem ups_take (s : List UInt8) (k : Nat) (h : k ≤ upN s) : (ups s).take (k + 1) = (ups s).take k ++ [upJ s (upN s - k)] := by
  have hl := ups_len s
  rw [List.take_succ_eq_append_getElem (by omega)]
  have := ups_at s k (by omega)
  rw [List.getElem?_eq_getElem (by omega), Option.some.injEq] at this
  rw [this]
theorem grown_drew (w : World) : w.grownBy w.drew none := ⟨rfl, rfl, rfl, Nat.le_refl _, fun _ _ _ => rfl⟩
attribute [local go_sem] Oper.semAt_some
set_option maxRecDepth 100000 in
set_option maxHeartbeats 4000000 in
theorem up_tells (s : List UInt8) (hn : s.isEmpty = false → Names (parts s)) (hl : s.length ≤ 1000000) (b n : Nat) (h1 : 1 ≤ n) (w : World) (hbw : b < w.heap.size) (hc : w.cell? ⟨b, 0, none⟩ = some (.string ⟨s.toArray⟩)) (hf : w.frozen? ⟨b, 0, none⟩ = false) :
    Rg.Tells Fence.wide n Try.prog 16 #[.pointer (some ⟨b, 0, none⟩)] (fun x : List UInt8 => #[.string ⟨x.toArray⟩]) (ups s) b w := by
  intro l J Jx W hW hJ hJx hbJ hbx hY h0
  have hcW : W.cell? ⟨b, 0, none⟩ = some (.string ⟨s.toArray⟩) := (hW.cell (p := ⟨b, 0, none⟩) hbw).trans hc
  have hfW : W.frozen? ⟨b, 0, none⟩ = false := (hW.frozen (p := ⟨b, 0, none⟩) hbw).trans hf
  have hbW : b < W.heap.size := Nat.lt_of_lt_of_le hbw hW.size
  refine callsIn_of_wp Try.func16 rfl trivial ?_ rfl
  simp only [Try.ntmps16, List.size_toArray, List.length_cons, List.length_nil, Nat.reduceAdd, Nat.reduceSub, Array.replicate_succ, Array.replicate_zero, List.push_toArray, List.append_toArray, List.nil_append, List.cons_append]
  gi_wp2
  gi_loopw [6] (fun _ wr => ∃ k, k ≤ upN s ∧ wr.cell? ⟨b, 0, none⟩ = some (.string ⟨(upJ s (upN s - k)).toArray⟩) ∧ wr.frozen? ⟨b, 0, none⟩ = false ∧ J ((ups s).take k) wr) (fun _ wr => boxLen b wr + 1)
  case atStart => exact ⟨0, Nat.zero_le _, by rw [Nat.sub_zero, up_zero]; exact hcW, hfW, h0⟩
  case round =>
    obtain ⟨k, hk, hcr, hfr, hJr⟩ := hrel
    have hpre : ((ups s).take k ++ [upJ s (upN s - k)]) <+: ups s := by rw [← ups_take s k hk]; exact List.take_prefix _ _
    obtain ⟨fn, tmps, assign, body, hy, hR⟩ := hY _ _ wr hJr hpre
    have hrd := ups_round hn hpre
    have hlk : ((ups s).take k).length = k := by rw [List.length_take, ups_len]; omega
    rw [hlk] at hrd
    obtain ⟨_, _, _, hne, hem⟩ := hrd
    have HY := Lib.hid hY; have HN := Lib.hid hn; have HP := Lib.hid hpre; have HJ := Lib.hid hJ; have HJX := Lib.hid hJx
    clear hY hn hpre hJ hJx h0 hc hf hcW hfW hW hlk
    by_cases hlt : k < upN s
    · obtain ⟨z, hz, hz0, hz1, hz2, hz3⟩ := next_any HN.out hl k hlt
      have hxe : (upJ s (upN s - k)).isEmpty = false := by
        cases h : (upJ s (upN s - k)).isEmpty
        · rfl
        · exact absurd (List.isEmpty_iff.1 h) (hne hlt)
      have hnx := ups_take s k (by omega)
      have hlt2 : (upJ s (upN s - (k + 1))).length < (upJ s (upN s - k)).length := by
        have he : s.isEmpty = false := by
          cases he : s.isEmpty
          · rfl
          · unfold upN at hlt; rw [he] at hlt; simp at hlt
        have := upJ_lt s (HN.out he) (upN s - (k + 1)) (by have := upN_le s; omega)
        rwa [show upN s - (k + 1) + 1 = upN s - k by omega] at this
      clear hne hem
      have HX := Lib.hid hnx; clear hnx
      generalize hx : upJ s (upN s - k) = x at *
      generalize hnxt : upJ s (upN s - (k + 1)) = nx at *
      have HNX := Lib.hid hnxt; clear hnxt
      have HXE := Lib.hid hx; clear hx
      gi_wp2
      refine hR.mono ?_
      rintro e W3 (⟨rfl, hJ3, hk3⟩ | ⟨rfl, hJx3⟩)
      · have hc3 : W3.cell? ⟨b, 0, none⟩ = some (.string ⟨x.toArray⟩) := (World.cell?_of_block hk3).trans hcr
        have hf3 : W3.frozen? ⟨b, 0, none⟩ = false := (World.frozen?_of_block hk3).trans hfr
        have hlr := boxLen_at hcr
        have HLR := Lib.hid hlr; have HK3 := Lib.hid hk3; have HZ2 := Lib.hid hz2; have HZ := Lib.hid hz
        clear hlr hk3 hz2 hz hy hR hcr hfr
        have q0 : (0 : Int) ≤ (nx.length : Int) := by omega
        have q1 : (nx.length : Int) ≤ (x.length : Int) := by omega
        gi_wp2
        refine wpIn_wide.2 ?_
        go_region_with (go_at_call 17; refine (HZ.out _).mono ?_; rintro e w' ⟨rfl, rfl⟩)
        all_goals
          rw [HZ2.out]
          simp only [Exit.inBlock]
          gi_wp2
          have hcell : (W3.setCell ⟨b, 0, none⟩ (.string ⟨nx.toArray⟩)).drew.cell? ⟨b, 0, none⟩ = some (.string ⟨nx.toArray⟩) := World.cell?_setCell_same' W3 ⟨b, 0, none⟩ (.string ⟨nx.toArray⟩) (by rw [hc3]; rfl)
          refine ⟨⟨k + 1, by omega, by rw [HNX.out]; exact hcell, (World.frozen?_setCell _ _ _ _).trans hf3, ?_⟩, ?_⟩
          · rw [HX.out]; exact HJ.out _ _ _ none (hbJ _ _ _ hJ3) (grown_drew _) (fun r e => by cases e)
          · rw [boxLen_at hcell, HLR.out]; omega
      · gi_wp2
        go_end0
        exact ⟨⟨_, rfl⟩, .inr ⟨_, HP.out, hJx3⟩⟩
    · obtain rfl : k = upN s := by omega
      have hxe : (upJ s (upN s - upN s)).isEmpty = true := by rw [hem rfl]; rfl
      have hall : (ups s).take (upN s) ++ [upJ s (upN s - upN s)] = ups s := by
        rw [← ups_take s _ (Nat.le_refl _), List.take_of_length_le (by rw [ups_len]; omega)]
      have HA := Lib.hid hall; clear hall hne hem
      generalize hx : upJ s (upN s - upN s) = x at *
      have HXE := Lib.hid hx; clear hx
      gi_wp2
      refine hR.mono ?_
      rintro e W3 (⟨rfl, hJ3, hk3⟩ | ⟨rfl, hJx3⟩)
      · have hc3 : W3.cell? ⟨b, 0, none⟩ = some (.string ⟨x.toArray⟩) := (World.cell?_of_block hk3).trans hcr
        have HK3 := Lib.hid hk3
        clear hk3 hy hR hcr
        gi_wp2
        go_end0
        exact ⟨⟨_, rfl⟩, .inl (by rw [← HA.out]; exact hJ3)⟩
      · gi_wp2
        go_end0
        exact ⟨⟨_, rfl⟩, .inr ⟨_, HP.out, hJx3⟩⟩
end Go.Proofs.Ytpmgooefkkbpbaa.Sc
