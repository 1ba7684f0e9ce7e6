/- A WRITER OF BYTES: Long, Bytes. -/
import Derived.Test.YtpbdgbejcdncgaaWr2
import Derived.Deep.RegionLaw
namespace Go.Proofs.Ytpbdgbejcdncgaa.Wire
open Go.RowKit Flt Go.Proofs.Ytpbdgbejcdncgaa.Val Go.Lib
theorem longAt_val (x q : Nat) : ((longAt x q).toNat : Int) = (x : Int) / 2 ^ q % 256 := by
  unfold longAt
  rw [UInt8.toNat_ofNat', Nat.mod_eq_of_lt (Nat.mod_lt _ (by decide)), Int.natCast_emod, Int.natCast_ediv, Int.natCast_pow]
  rfl
theorem u8s_long (x q : Nat) : u8s [longAt x q] = [.int .u8 ((x : Int) / 2 ^ q % 256)] := by
  show [Value.int .u8 ((longAt x q).toNat : Int)] = _
  rw [longAt_val]
theorem encLong_take (x j q : Nat) (h : q + 8 * j = 56) : (encLong x).take (j + 1) = (encLong x).take j ++ [longAt x q] := by
  match j, h with
  | 0, h => obtain rfl : q = 56 := by omega
            rfl
  | 1, h => obtain rfl : q = 48 := by omega
            rfl
  | 2, h => obtain rfl : q = 40 := by omega
            rfl
  | 3, h => obtain rfl : q = 32 := by omega
            rfl
  | 4, h => obtain rfl : q = 24 := by omega
            rfl
  | 5, h => obtain rfl : q = 16 := by omega
            rfl
  | 6, h => obtain rfl : q = 8 := by omega
            rfl
  | 7, h => obtain rfl : q = 0 := by omega
            rfl
  | n + 8, h => omega
theorem WrAt.drew {W : World} {b : Nat} {v : Value} {s : List UInt8} (h : WrAt W b v s) : WrAt W.drew b v s := ⟨h.cb, h.fz, h.own⟩
theorem wrote_drew (b : Nat) (W : World) : Wrote b W W.drew := ⟨rfl, rfl, rfl, Nat.le_refl _, fun _ h => ⟨⟨h.lt, h.ne, h.row⟩, rfl⟩⟩
set_option maxRecDepth 20000 in
set_option maxHeartbeats 4000000 in
theorem wlong_any (b : Nat) (s : List UInt8) (x : Nat) (w : World) (h : Wr w b s) (hl : s.length + 8 ≤ 1000000) :
    Calls Try.prog 32 #[.pointer (some ⟨b, 0, none⟩), .int .u64 x] w fun e w' => e = .returned (.pointer (some ⟨b, 0, none⟩)) ∧ Wr w' b (s ++ encLong x) ∧ Wrote b w w' := by
  have HH := Lib.hid h; clear h
  obtain ⟨i0, hi, hz0, hz1, hz2⟩ := info_parts info_u8W
  go_enter Try.func32, Try.ntmps32
  go_wp2_with fail
  go_loopw [5] (fun vi wr => ∃ j : Nat, j ≤ 8 ∧ vi = .int .i64 (56 - 8 * (j : Int)) ∧ Wr wr b (s ++ (encLong x).take j) ∧ Wrote b w wr) (fun vi _ => (RowKit.intOf vi + 8).toNat)
  case atStart => exact ⟨0, by omega, rfl, by simpa using HH.out, Wrote.refl _ _⟩
  case round =>
    obtain ⟨j, hj, rfl, hwr, hwt⟩ := hrel
    by_cases hlt : j < 8
    · obtain ⟨q, hq⟩ : ∃ q, q + 8 * j = 56 := ⟨56 - 8 * j, by omega⟩
      have hk : 56 - 8 * (j : Int) = (q : Int) := by omega
      have hq6 : q ≤ 64 := by omega
      have hnx : s ++ (encLong x).take (j + 1) = (s ++ (encLong x).take j) ++ [longAt x q] := by rw [encLong_take x j q hq, List.append_assoc]
      have hlen : (s ++ (encLong x).take j).length ≤ s.length + 7 := by simp [encLong_len]; omega
      have hend : (q : Int) - 8 = 56 - 8 * ((j + 1 : Nat) : Int) := by push_cast; omega
      rw [hk]
      obtain ⟨v, hat⟩ := hwr
      generalize s ++ (encLong x).take j = S at *
      have c0 := hat.cb
      have z0 := hat.fz
      have q0 : b < wr.heap.size := World.block_lt_of_cell? _ _ c0
      have HAT := Lib.hid hat; have HNX := Lib.hid hnx; have HWT := Lib.hid hwt; have HLEN := Lib.hid hlen; have HEND := Lib.hid hend
      clear hat hnx hwt hlen hend hk hq
      go_wp2_with fail
      go_region_law ((refine step_append_lies _ (by rfl) _ _ _ (by rfl) (b + 1) 5 i0 (.int .u8 0) 1 1 Try.underlying22 hi hz0 hz1 hz2 rfl (by decide) v S.length (u8s S) (by rfl) (World.ownsRow.alloc (w := wr.drew) HAT.out.own _) ⟨wr.heap.size, 0, none⟩ 1 1 [.int .u8 ((x : Int) / 2 ^ q % 256)] (by rfl) (by rfl) (World.news_of_block (heap_alloc_new _ _)) (one_u8 _) (by decide) (by have := HLEN.out; unfold maxLen; omega) (by have := HLEN.out; omega) (by simp; omega) (wr.heap.size + 1) (by simp) ?_; intro g cap2 w5 hown hgrow hat2 hlt2; have HPUT := Lib.hid (wr_put (x := [longAt x q]) (HAT.out.drew.below (balloc _ _)) (by rw [u8s_long]; exact hown) hgrow (by rcases hat2 with e | e; (left; exact e.symm); (right; exact ⟨g, rfl, by rw [e]; simp⟩))); obtain ⟨c5, z5⟩ := put_cells HAT.out.drew hgrow))
      all_goals
        go_wp2_with fail
        exact ⟨⟨j + 1, by omega, by rw [← HEND.out], by rw [HNX.out]; exact HPUT.out.1, HWT.out.trans ((wrote_drew b wr).trans ((wrote_below (W := wr.drew) q0 (balloc wr.drew _)).trans HPUT.out.2))⟩, by simp [RowKit.intOf]; omega⟩
    · have i1 : ¬ (0 : Int) ≤ 56 - 8 * (j : Int) := by omega
      obtain rfl : j = 8 := by omega
      go_wp2_with fail
      go_ret
      exact ⟨rfl, hwr, hwt⟩
end Go.Proofs.Ytpbdgbejcdncgaa.Wire
