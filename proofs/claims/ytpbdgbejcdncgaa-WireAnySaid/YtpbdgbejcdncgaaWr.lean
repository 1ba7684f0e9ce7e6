/- A WRITER OF BYTES: its box, its row; what a write leaves alone; Byte. -/
import Derived.Test.YtpbdgbejcdncgaaWrFn
import Derived.Test.YtpbdgbejcdncgaaVal
import Derived.Laws.AppendOwnNone
import Derived.Maps.AppendAt
import Derived.Deep.AppendLies
import Derived.Deep.RegionHeldLaw
namespace Go.Proofs.Ytpbdgbejcdncgaa.Wire
open Go.RowKit Flt Go.Proofs.Ytpbdgbejcdncgaa.Val
abbrev u8s (s : List UInt8) : List Value := s.map fun c => .int .u8 (c.toNat : Int)
/-- a writer at box b whose text so far is s -/
structure WrAt (W : World) (b : Nat) (v : Value) (s : List UInt8) : Prop where
  cb : W.cell? ⟨b, 0, none⟩ = some v
  fz : W.frozen? ⟨b, 0, none⟩ = false
  own : W.ownsRow (b + 1) 5 1 v s.length (u8s s)
def Wr (W : World) (b : Nat) (s : List UInt8) : Prop := ∃ v, WrAt W b v s
/-- a block that a writer leaves alone -/
structure Free (W : World) (b p : Nat) : Prop where
  lt : p < W.heap.size
  ne : p ≠ b
  row : ∀ v, W.cell? ⟨b, 0, none⟩ = some v → v.ownBlock ≠ some p
structure Wrote (b : Nat) (W W2 : World) : Prop where
  os : W2.os = W.os
  tape : W2.tape = W.tape
  output : W2.output = W.output
  size : W.heap.size ≤ W2.heap.size
  free : ∀ p, Free W b p → Free W2 b p ∧ W2.heap[p]? = W.heap[p]?
theorem Wrote.refl (b : Nat) (W : World) : Wrote b W W := ⟨rfl, rfl, rfl, Nat.le_refl _, fun _ h => ⟨h, rfl⟩⟩
theorem Wrote.trans {b : Nat} {W W2 W3 : World} (h : Wrote b W W2) (k : Wrote b W2 W3) : Wrote b W W3 :=
  ⟨k.os.trans h.os, k.tape.trans h.tape, k.output.trans h.output, Nat.le_trans h.size k.size, fun p hp => ⟨(k.free p (h.free p hp).1).1, ((k.free p (h.free p hp).1).2).trans (h.free p hp).2⟩⟩
theorem Wr.lt {W : World} {b : Nat} {s : List UInt8} (h : Wr W b s) : b < W.heap.size := by
  obtain ⟨v, h⟩ := h
  exact World.block_lt_of_cell? _ _ h.cb
/-- what is done below the writer's back leaves it alone -/
theorem wrote_below {W W2 : World} {b : Nat} (hlt : b < W.heap.size) (hb : Below W.heap.size W W2) : Wrote b W W2 :=
  ⟨hb.os, hb.tape, hb.output, hb.size, fun p hp => ⟨⟨Nat.lt_of_lt_of_le hp.lt hb.size, hp.ne, fun v hv => hp.row v ((hb.cell (p := ⟨b, 0, none⟩) hlt).symm.trans hv)⟩, hb.block p hp.lt⟩⟩
theorem own_lowW {W W2 : World} {base e size : Nat} {v : Value} {n : Nat} {xs : List Value} (h : W.ownsRow base e size v n xs) (hb : Below W.heap.size W W2) : W2.ownsRow base e size v n xs := by
  have hv : ∀ k, v.ownBlock = some k → k < W.heap.size := fun k hk => (h.lt k hk).2
  refine ⟨h.1, ?_⟩
  rcases h.2 with hn | ⟨g2, cap, cur, rfl, hb2, hgg, rest⟩
  · exact .inl hn
  · refine .inr ⟨g2, cap, cur, rfl, hb2, ?_, rest⟩
    rw [hb.block g2 (hv g2 (by simp [Value.ownBlock]))]
    exact hgg
theorem WrAt.below {W W2 : World} {b : Nat} {v : Value} {s : List UInt8} (h : WrAt W b v s) (hb : Below W.heap.size W W2) : WrAt W2 b v s :=
  have hz := World.block_lt_of_cell? _ _ h.cb
  ⟨(hb.cell (p := ⟨b, 0, none⟩) hz).trans h.cb, (hb.frozen (p := ⟨b, 0, none⟩) hz).trans h.fz, own_lowW h.own hb⟩
theorem Wr.below {W W2 : World} {b : Nat} {s : List UInt8} (h : Wr W b s) (hb : Below W.heap.size W W2) : Wr W2 b s := by
  obtain ⟨v, h⟩ := h
  exact ⟨v, h.below hb⟩
/-- all below the writer is free -/
theorem Wr.free {W : World} {b p : Nat} {s : List UInt8} (h : Wr W b s) (hp : p < b) : Free W b p := by
  have hlt := h.lt
  obtain ⟨v, h⟩ := h
  refine ⟨by omega, by omega, fun u hu e => ?_⟩
  have : v = u := by have := h.cb.symm.trans hu; simpa using this
  subst this
  have := (h.own.lt p e).1
  omega
/-- a new block is free -/
theorem Wr.free_new {W W2 : World} {b p : Nat} {s : List UInt8} (h : Wr W b s) (hb : Below W.heap.size W W2) (h1 : W.heap.size ≤ p) (h2 : p < W2.heap.size) : Free W2 b p := by
  have hlt := h.lt
  have hz := hb.cell (p := ⟨b, 0, none⟩) hlt
  obtain ⟨v, h⟩ := h
  refine ⟨h2, by omega, fun u hu e => ?_⟩
  have : v = u := by have := h.cb.symm.trans (hz.symm.trans hu); simpa using this
  subst this
  have := (h.own.lt p e).2
  omega
/-- so what is written keeps all that lies below the writer -/
theorem Wrote.below {W W2 : World} {b B : Nat} {s : List UInt8} (h : Wrote b W W2) (hw : Wr W b s) (hB : B ≤ b) : Below B W W2 :=
  ⟨h.os, h.tape, h.output, h.size, fun p hp => (h.free p (hw.free (by omega))).2⟩
theorem Wrote.cell {W W2 : World} {b p : Nat} (h : Wrote b W W2) (hp : Free W b p) (o : Nat) : W2.cell? ⟨p, o, none⟩ = W.cell? ⟨p, o, none⟩ := World.cell?_of_block (w := W) (a := ⟨p, o, none⟩) (h.free p hp).2
theorem Wrote.frozen {W W2 : World} {b p : Nat} (h : Wrote b W W2) (hp : Free W b p) (o : Nat) : W2.frozen? ⟨p, o, none⟩ = W.frozen? ⟨p, o, none⟩ := World.frozen?_of_block (w := W) (a := ⟨p, o, none⟩) (h.free p hp).2
/-- a new writer -/
theorem wr_new (w : World) {T : TypeId} : Wr (w.alloc (.cells #[.slice none 0 0] T)) w.heap.size [] :=
  ⟨.slice none 0 0, World.cell?_alloc_at _ _ _ _ rfl, by simp, World.ownsRow_nil _ _ _ _⟩
/-- BEHIND AN APPEND AND THE STORE: the writer with more text -/
theorem wr_put {W w5 : World} {b : Nat} {v v9 : Value} {s x : List UInt8} (h : WrAt W b v s) (hown : w5.ownsRow (b + 1) 5 1 v9 (s.length + x.length) (u8s s ++ u8s x)) (hgrow : W.grownBy w5 v.ownBlock) (hob : v9.ownBlock = v.ownBlock ∨ ∃ k, v9.ownBlock = some k ∧ W.heap.size ≤ k) :
    Wr (w5.setCell ⟨b, 0, none⟩ v9) b (s ++ x) ∧ Wrote b W (w5.setCell ⟨b, 0, none⟩ v9) := by
  have hz := World.block_lt_of_cell? _ _ h.cb
  have hnb : some b ≠ v.ownBlock := fun e => by have := (h.own.lt b e.symm).1; omega
  have hc5 : w5.cell? ⟨b, 0, none⟩ = some v := (hgrow.cell_far ⟨b, 0, none⟩ hz hnb).trans h.cb
  have hf5 : w5.frozen? ⟨b, 0, none⟩ = false := (hgrow.frozen_far ⟨b, 0, none⟩ hz hnb).trans h.fz
  have hcb : (w5.setCell ⟨b, 0, none⟩ v9).cell? ⟨b, 0, none⟩ = some v9 := World.cell?_setCell_same _ _ _ hc5
  refine ⟨⟨v9, hcb, by simpa using hf5, ?_⟩, ?_⟩
  · have := ownsRow_setCell_below hown (a := ⟨b, 0, none⟩) (Nat.lt_succ_self b) v9
    simpa [u8s] using this
  · refine ⟨hgrow.os, hgrow.tape, hgrow.output, by simpa using hgrow.size, fun p hp => ?_⟩
    have hpv : some p ≠ v.ownBlock := fun e => hp.row v h.cb e.symm
    refine ⟨⟨by simpa using Nat.lt_of_lt_of_le hp.lt hgrow.size, hp.ne, fun u hu e => ?_⟩, ?_⟩
    · have : u = v9 := by have := hu.symm.trans hcb; simpa using this
      subst this
      rcases hob with e2 | ⟨k, e2, hk⟩
      · exact hpv (by rw [← e2, e])
      · rw [e2] at e
        have := hp.lt
        simp only [Option.some.injEq] at e
        omega
    · rw [Below.heap_setCell _ _ _ _ hp.ne]
      exact hgrow.block p hp.lt hpv
theorem info_u8W : (Try.prog.info? 5).map (fun i => (i.zero, i.size, i.bytes)) = some (some (.int .u8 0), 1, 1) := by kernel_rfl
theorem u8s_one (s : List UInt8) : ∀ u ∈ u8s s, u.oneCell' = true := by
  intro u hu
  obtain ⟨c, _, rfl⟩ := List.mem_map.1 hu
  rfl
theorem u8_wrap (n : Int) : IntKind.u8.wrap n = ((byteOf n).toNat : Int) := by
  rw [byteOf_val]; simp only [IntKind.wrap, IntKind.bits, IntKind.signed]; simp
theorem u8s_byte (n : Int) : u8s [byteOf n] = [.int .u8 (n % 256)] := by
  show [Value.int .u8 ((byteOf n).toNat : Int)] = _
  rw [byteOf_val]
theorem one_u8 (n : Int) : ∀ u ∈ [Value.int .u8 n], u.oneCell' = true := by
  intro u hu
  rw [List.mem_singleton] at hu
  subst hu; rfl
theorem put_cells0 {w w5 : World} {b : Nat} {v : Value} {s : List UInt8} (h : WrAt w b v s) (hgrow : w.grownBy w5 v.ownBlock) : w5.cell? ⟨b, 0, none⟩ = some v ∧ w5.frozen? ⟨b, 0, none⟩ = false := by
  have hz := World.block_lt_of_cell? _ _ h.cb
  have hnb : some b ≠ v.ownBlock := fun e => by have := (h.own.lt b e.symm).1; omega
  exact ⟨(hgrow.cell_far ⟨b, 0, none⟩ hz hnb).trans h.cb, (hgrow.frozen_far ⟨b, 0, none⟩ hz hnb).trans h.fz⟩
theorem put_cells {w w5 : World} {b : Nat} {v : Value} {s : List UInt8} {o : Obj} (h : WrAt w b v s) (hgrow : (w.alloc o).grownBy w5 v.ownBlock) : w5.cell? ⟨b, 0, none⟩ = some v ∧ w5.frozen? ⟨b, 0, none⟩ = false := by
  have h2 := h.below (balloc w o)
  have hz := World.block_lt_of_cell? _ _ h2.cb
  have hnb : some b ≠ v.ownBlock := fun e => by have := (h2.own.lt b e.symm).1; omega
  exact ⟨(hgrow.cell_far ⟨b, 0, none⟩ hz hnb).trans h2.cb, (hgrow.frozen_far ⟨b, 0, none⟩ hz hnb).trans h2.fz⟩
set_option maxRecDepth 20000 in
set_option maxHeartbeats 4000000 in
/-- Byte: its numbers, each a byte -/
theorem wbyte_any (b : Nat) (s : List UInt8) (a : Addr) (ns : List Int) (cap : Nat) (w : World) (h : Wr w b s) (ha : Free w b a.block) (hns : ∀ i (hi : i < ns.length), w.cell? (a.add i) = some (.int .i64 ns[i])) (hl : s.length + ns.length ≤ 1000000) :
    Calls Try.prog 29 #[.pointer (some ⟨b, 0, none⟩), .slice (some a) ns.length cap] w fun e w' => e = .returned (.pointer (some ⟨b, 0, none⟩)) ∧ Wr w' b (s ++ ns.map byteOf) ∧ Wrote b w w' := by
  have HNS := Lib.hid hns; have HA := Lib.hid ha; have HH := Lib.hid h
  clear hns ha h
  obtain ⟨i0, hi, hz0, hz1, hz2⟩ := info_parts info_u8W
  go_enter Try.func29, Try.ntmps29
  go_wp2_with fail
  go_loopw [9] (fun vi wr => ∃ k : Nat, k ≤ ns.length ∧ vi = .int .i64 k ∧ Wr wr b (s ++ (ns.take k).map byteOf) ∧ Wrote b w wr) (fun vi _ => ns.length - (intOf vi).toNat)
  case atStart => exact ⟨0, Nat.zero_le _, rfl, by simpa using HH.out, Wrote.refl _ _⟩
  case round =>
    obtain ⟨k, hk, rfl, hwr, hwt⟩ := hrel
    by_cases hlt : k < ns.length
    · have i1 : (k : Int) < (ns.length : Int) := by omega
      have i2 : (0 : Int) ≤ (k : Int) := by omega
      have v0 : wr.cell? (a.add k) = some (.int .i64 ns[k]) := by
        have e : (a.add k).block = a.block := by unfold Addr.add; split <;> rfl
        exact (World.cell?_of_block (w := w) (a := a.add k) (by rw [e]; exact (hwt.free _ HA.out).2)).trans (HNS.out k hlt)
      have hlen : (s ++ (ns.take k).map byteOf).length = s.length + k := by simp; omega
      have hnx : s ++ (ns.take (k + 1)).map byteOf = (s ++ (ns.take k).map byteOf) ++ [byteOf ns[k]] := by
        rw [List.take_add_one, List.getElem?_eq_getElem hlt, List.map_append, ← List.append_assoc]; rfl
      obtain ⟨v, hat⟩ := hwr
      generalize ns[k] = n at *
      generalize s ++ (ns.take k).map byteOf = S at *
      have c0 := hat.cb
      have z0 := hat.fz
      have q0 : b < wr.heap.size := World.block_lt_of_cell? _ _ c0
      have HAT := Lib.hid hat; have HNX := Lib.hid hnx; have HWT := Lib.hid hwt; have HLEN := Lib.hid hlen
      clear hat hnx hwt hlen
      go_wp2_with (first | (at_builtin; refine wpList_append_lies _ rfl _ _ 22 rfl (b + 1) 5 i0 (.int .u8 0) 1 1 Try.underlying22 hi hz0 hz1 hz2 rfl (by decide) v S.length (u8s S) rfl (World.ownsRow.alloc HAT.out.own _) ⟨wr.heap.size, 0, none⟩ 1 1 [.int .u8 (n % 256)] rfl rfl (World.news_of_block (heap_alloc_new _ _)) (one_u8 _) (by decide) (by have := HLEN.out; unfold maxLen; omega) (by have := HLEN.out; omega) (by simp; omega) (wr.heap.size + 1) (by simp) ?_; intro g cap2 w5 hown hgrow hat2 hlt2; have HPUT := Lib.hid (wr_put (HAT.out.below (balloc _ _)) (by rw [u8s_byte]; exact hown) hgrow (by rcases hat2 with e | e; (left; exact e.symm); (right; exact ⟨g, rfl, by rw [e]; simp⟩))); obtain ⟨c5, z5⟩ := put_cells HAT.out hgrow) | fail)
      exact ⟨⟨k + 1, by omega, by go_num, by rw [HNX.out]; exact HPUT.out.1, HWT.out.trans ((wrote_below q0 (balloc _ _)).trans HPUT.out.2)⟩, by simp [intOf]; go_num⟩
    · have i1 : ¬ (k : Int) < (ns.length : Int) := by omega
      obtain rfl : k = ns.length := by omega
      go_wp2_with fail
      go_ret
      rw [List.take_length] at hwr
      exact ⟨rfl, hwr, hwt⟩
end Go.Proofs.Ytpbdgbejcdncgaa.Wire
