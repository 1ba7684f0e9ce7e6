/- MERGED BY A PROGRAM OF MINE (pmg.py) out of my own texts, pruned, in their order: Wr, Wr2, Wr3, Wr4, Wr5, FilM, PolFn, PolMem, Wr6, Wr7, WLen, ApFn, RdFn, Rd, OrdBack, RdV. -/
import Derived.Test.YtpbdgbejcdncgaaGreatDoorMgWireApart2
import Derived.Test.YtpbdgbejcdncgaaGreatDoorVal
import Derived.Laws.AppendOwnNone
import Derived.Maps.AppendAt
import Derived.Deep.AppendLies
import Derived.Deep.RegionHeldLaw
import Derived.Lib.AppendStr
import Derived.Deep.RegionLaw
import Derived.Deep.DeepCutAuto
import Derived.Deep.LoopGhost
import Derived.Deep.RegionHeld3
import Derived.WalkLawsBesides
import Derived.WalkSpells

section
/- A WRITER OF BYTES: its box, its row; what a write leaves alone; Byte. -/
namespace Go.Proofs.YtpbdgbejcdncgaaGreatDoor.Wire
open Go.RowKit Flt Go.Proofs.YtpbdgbejcdncgaaGreatDoor.Val
abbrev u8s (s : List UInt8) : List Value := s.map fun c => .int .u8 (c.toNat : Int)
/-- a writer at box b whose text so far is s -/
structure WrAt (W : World) (b : Nat) (v : Value) (s : List UInt8) : Prop where
  cb : W.cell? ⟨b, 0, none⟩ = some v
  fz : W.frozen? ⟨b, 0, none⟩ = false
  own : W.ownsRow (b + 1) 5 1 v s.length (u8s s)
def Wr (W : World) (b : Nat) (s : List UInt8) : Prop := ∃ v, WrAt W b v s
/-- a block that a writer leaves alone -/
structure Free (W : World) (b p : Nat) : Prop where
  lt : p < W.heap.size
  ne : p ≠ b
  row : ∀ v, W.cell? ⟨b, 0, none⟩ = some v → v.ownBlock ≠ some p
structure Wrote (b : Nat) (W W2 : World) : Prop where
  os : W2.os = W.os
  tape : W2.tape = W.tape
  output : W2.output = W.output
  size : W.heap.size ≤ W2.heap.size
  free : ∀ p, Free W b p → Free W2 b p ∧ W2.heap[p]? = W.heap[p]?
theorem Wrote.refl (b : Nat) (W : World) : Wrote b W W := ⟨rfl, rfl, rfl, Nat.le_refl _, fun _ h => ⟨h, rfl⟩⟩
theorem Wrote.trans {b : Nat} {W W2 W3 : World} (h : Wrote b W W2) (k : Wrote b W2 W3) : Wrote b W W3 :=
  ⟨k.os.trans h.os, k.tape.trans h.tape, k.output.trans h.output, Nat.le_trans h.size k.size, fun p hp => ⟨(k.free p (h.free p hp).1).1, ((k.free p (h.free p hp).1).2).trans (h.free p hp).2⟩⟩
theorem Wr.lt {W : World} {b : Nat} {s : List UInt8} (h : Wr W b s) : b < W.heap.size := by
  obtain ⟨v, h⟩ := h
  exact World.block_lt_of_cell? _ _ h.cb
/-- what is done below the writer's back leaves it alone -/
theorem wrote_below {W W2 : World} {b : Nat} (hlt : b < W.heap.size) (hb : Below W.heap.size W W2) : Wrote b W W2 :=
  ⟨hb.os, hb.tape, hb.output, hb.size, fun p hp => ⟨⟨Nat.lt_of_lt_of_le hp.lt hb.size, hp.ne, fun v hv => hp.row v ((hb.cell (p := ⟨b, 0, none⟩) hlt).symm.trans hv)⟩, hb.block p hp.lt⟩⟩
theorem own_lowW {W W2 : World} {base e size : Nat} {v : Value} {n : Nat} {xs : List Value} (h : W.ownsRow base e size v n xs) (hb : Below W.heap.size W W2) : W2.ownsRow base e size v n xs := by
  have hv : ∀ k, v.ownBlock = some k → k < W.heap.size := fun k hk => (h.lt k hk).2
  refine ⟨h.1, ?_⟩
  rcases h.2 with hn | ⟨g2, cap, cur, rfl, hb2, hgg, rest⟩
  · exact .inl hn
  · refine .inr ⟨g2, cap, cur, rfl, hb2, ?_, rest⟩
    rw [hb.block g2 (hv g2 (by simp [Value.ownBlock]))]
    exact hgg
theorem WrAt.below {W W2 : World} {b : Nat} {v : Value} {s : List UInt8} (h : WrAt W b v s) (hb : Below W.heap.size W W2) : WrAt W2 b v s :=
  have hz := World.block_lt_of_cell? _ _ h.cb
  ⟨(hb.cell (p := ⟨b, 0, none⟩) hz).trans h.cb, (hb.frozen (p := ⟨b, 0, none⟩) hz).trans h.fz, own_lowW h.own hb⟩
theorem Wr.below {W W2 : World} {b : Nat} {s : List UInt8} (h : Wr W b s) (hb : Below W.heap.size W W2) : Wr W2 b s := by
  obtain ⟨v, h⟩ := h
  exact ⟨v, h.below hb⟩
/-- all below the writer is free -/
theorem Wr.free {W : World} {b p : Nat} {s : List UInt8} (h : Wr W b s) (hp : p < b) : Free W b p := by
  have hlt := h.lt
  obtain ⟨v, h⟩ := h
  refine ⟨by omega, by omega, fun u hu e => ?_⟩
  have : v = u := by have := h.cb.symm.trans hu; simpa using this
  subst this
  have := (h.own.lt p e).1
  omega
/-- a new block is free -/
theorem Wr.free_new {W W2 : World} {b p : Nat} {s : List UInt8} (h : Wr W b s) (hb : Below W.heap.size W W2) (h1 : W.heap.size ≤ p) (h2 : p < W2.heap.size) : Free W2 b p := by
  have hlt := h.lt
  have hz := hb.cell (p := ⟨b, 0, none⟩) hlt
  obtain ⟨v, h⟩ := h
  refine ⟨h2, by omega, fun u hu e => ?_⟩
  have : v = u := by have := h.cb.symm.trans (hz.symm.trans hu); simpa using this
  subst this
  have := (h.own.lt p e).2
  omega
/-- so what is written keeps all that lies below the writer -/
theorem Wrote.below {W W2 : World} {b B : Nat} {s : List UInt8} (h : Wrote b W W2) (hw : Wr W b s) (hB : B ≤ b) : Below B W W2 :=
  ⟨h.os, h.tape, h.output, h.size, fun p hp => (h.free p (hw.free (by omega))).2⟩
theorem Wrote.cell {W W2 : World} {b p : Nat} (h : Wrote b W W2) (hp : Free W b p) (o : Nat) : W2.cell? ⟨p, o, none⟩ = W.cell? ⟨p, o, none⟩ := World.cell?_of_block (w := W) (a := ⟨p, o, none⟩) (h.free p hp).2
theorem Wrote.frozen {W W2 : World} {b p : Nat} (h : Wrote b W W2) (hp : Free W b p) (o : Nat) : W2.frozen? ⟨p, o, none⟩ = W.frozen? ⟨p, o, none⟩ := World.frozen?_of_block (w := W) (a := ⟨p, o, none⟩) (h.free p hp).2
/-- a new writer -/
theorem wr_new (w : World) {T : TypeId} : Wr (w.alloc (.cells #[.slice none 0 0] T)) w.heap.size [] :=
  ⟨.slice none 0 0, World.cell?_alloc_at _ _ _ _ rfl, by simp, World.ownsRow_nil _ _ _ _⟩
/-- BEHIND AN APPEND AND THE STORE: the writer with more text -/
theorem wr_put {W w5 : World} {b : Nat} {v v9 : Value} {s x : List UInt8} (h : WrAt W b v s) (hown : w5.ownsRow (b + 1) 5 1 v9 (s.length + x.length) (u8s s ++ u8s x)) (hgrow : W.grownBy w5 v.ownBlock) (hob : v9.ownBlock = v.ownBlock ∨ ∃ k, v9.ownBlock = some k ∧ W.heap.size ≤ k) :
    Wr (w5.setCell ⟨b, 0, none⟩ v9) b (s ++ x) ∧ Wrote b W (w5.setCell ⟨b, 0, none⟩ v9) := by
  have hz := World.block_lt_of_cell? _ _ h.cb
  have hnb : some b ≠ v.ownBlock := fun e => by have := (h.own.lt b e.symm).1; omega
  have hc5 : w5.cell? ⟨b, 0, none⟩ = some v := (hgrow.cell_far ⟨b, 0, none⟩ hz hnb).trans h.cb
  have hf5 : w5.frozen? ⟨b, 0, none⟩ = false := (hgrow.frozen_far ⟨b, 0, none⟩ hz hnb).trans h.fz
  have hcb : (w5.setCell ⟨b, 0, none⟩ v9).cell? ⟨b, 0, none⟩ = some v9 := World.cell?_setCell_same _ _ _ hc5
  refine ⟨⟨v9, hcb, by simpa using hf5, ?_⟩, ?_⟩
  · have := ownsRow_setCell_below hown (a := ⟨b, 0, none⟩) (Nat.lt_succ_self b) v9
    simpa [u8s] using this
  · refine ⟨hgrow.os, hgrow.tape, hgrow.output, by simpa using hgrow.size, fun p hp => ?_⟩
    have hpv : some p ≠ v.ownBlock := fun e => hp.row v h.cb e.symm
    refine ⟨⟨by simpa using Nat.lt_of_lt_of_le hp.lt hgrow.size, hp.ne, fun u hu e => ?_⟩, ?_⟩
    · have : u = v9 := by have := hu.symm.trans hcb; simpa using this
      subst this
      rcases hob with e2 | ⟨k, e2, hk⟩
      · exact hpv (by rw [← e2, e])
      · rw [e2] at e
        have := hp.lt
        simp only [Option.some.injEq] at e
        omega
    · rw [Below.heap_setCell _ _ _ _ hp.ne]
      exact hgrow.block p hp.lt hpv
theorem info_u8W : (Tryz.prog.info? 5).map (fun i => (i.zero, i.size, i.bytes)) = some (some (.int .u8 0), 1, 1) := by kernel_rfl
theorem u8s_one (s : List UInt8) : ∀ u ∈ u8s s, u.oneCell' = true := by
  intro u hu
  obtain ⟨c, _, rfl⟩ := List.mem_map.1 hu
  rfl
theorem u8s_byte (n : Int) : u8s [byteOf n] = [.int .u8 (n % 256)] := by
  show [Value.int .u8 ((byteOf n).toNat : Int)] = _
  rw [byteOf_val]
theorem one_u8 (n : Int) : ∀ u ∈ [Value.int .u8 n], u.oneCell' = true := by
  intro u hu
  rw [List.mem_singleton] at hu
  subst hu; rfl
theorem put_cells0 {w w5 : World} {b : Nat} {v : Value} {s : List UInt8} (h : WrAt w b v s) (hgrow : w.grownBy w5 v.ownBlock) : w5.cell? ⟨b, 0, none⟩ = some v ∧ w5.frozen? ⟨b, 0, none⟩ = false := by
  have hz := World.block_lt_of_cell? _ _ h.cb
  have hnb : some b ≠ v.ownBlock := fun e => by have := (h.own.lt b e.symm).1; omega
  exact ⟨(hgrow.cell_far ⟨b, 0, none⟩ hz hnb).trans h.cb, (hgrow.frozen_far ⟨b, 0, none⟩ hz hnb).trans h.fz⟩
theorem put_cells {w w5 : World} {b : Nat} {v : Value} {s : List UInt8} {o : Obj} (h : WrAt w b v s) (hgrow : (w.alloc o).grownBy w5 v.ownBlock) : w5.cell? ⟨b, 0, none⟩ = some v ∧ w5.frozen? ⟨b, 0, none⟩ = false := by
  have h2 := h.below (balloc w o)
  have hz := World.block_lt_of_cell? _ _ h2.cb
  have hnb : some b ≠ v.ownBlock := fun e => by have := (h2.own.lt b e.symm).1; omega
  exact ⟨(hgrow.cell_far ⟨b, 0, none⟩ hz hnb).trans h2.cb, (hgrow.frozen_far ⟨b, 0, none⟩ hz hnb).trans h2.fz⟩
set_option maxRecDepth 20000 in
set_option maxHeartbeats 4000000 in
/-- Byte: its numbers, each a byte -/
theorem wbyte_any (b : Nat) (s : List UInt8) (a : Addr) (ns : List Int) (cap : Nat) (w : World) (h : Wr w b s) (ha : Free w b a.block) (hns : ∀ i (hi : i < ns.length), w.cell? (a.add i) = some (.int .i64 ns[i])) (hl : s.length + ns.length ≤ 1000000) :
    Calls Tryz.prog 22 #[.pointer (some ⟨b, 0, none⟩), .slice (some a) ns.length cap] w fun e w' => e = .returned (.pointer (some ⟨b, 0, none⟩)) ∧ Wr w' b (s ++ ns.map byteOf) ∧ Wrote b w w' := by
  have HNS := Lib.hid hns; have HA := Lib.hid ha; have HH := Lib.hid h
  clear hns ha h
  obtain ⟨i0, hi, hz0, hz1, hz2⟩ := info_parts info_u8W
  go_enter Tryz.func22, Tryz.ntmps22
  go_wp2_with fail
  go_loopw [9] (fun vi wr => ∃ k : Nat, k ≤ ns.length ∧ vi = .int .i64 k ∧ Wr wr b (s ++ (ns.take k).map byteOf) ∧ Wrote b w wr) (fun vi _ => ns.length - (intOf vi).toNat)
  case atStart => exact ⟨0, Nat.zero_le _, rfl, by simpa using HH.out, Wrote.refl _ _⟩
  case round =>
    obtain ⟨k, hk, rfl, hwr, hwt⟩ := hrel
    by_cases hlt : k < ns.length
    · have i1 : (k : Int) < (ns.length : Int) := by omega
      have i2 : (0 : Int) ≤ (k : Int) := by omega
      have v0 : wr.cell? (a.add k) = some (.int .i64 ns[k]) := by
        have e : (a.add k).block = a.block := by unfold Addr.add; split <;> rfl
        exact (World.cell?_of_block (w := w) (a := a.add k) (by rw [e]; exact (hwt.free _ HA.out).2)).trans (HNS.out k hlt)
      have hlen : (s ++ (ns.take k).map byteOf).length = s.length + k := by simp; omega
      have hnx : s ++ (ns.take (k + 1)).map byteOf = (s ++ (ns.take k).map byteOf) ++ [byteOf ns[k]] := by
        rw [List.take_add_one, List.getElem?_eq_getElem hlt, List.map_append, ← List.append_assoc]; rfl
      obtain ⟨v, hat⟩ := hwr
      generalize ns[k] = n at *
      generalize s ++ (ns.take k).map byteOf = S at *
      have c0 := hat.cb
      have z0 := hat.fz
      have q0 : b < wr.heap.size := World.block_lt_of_cell? _ _ c0
      have HAT := Lib.hid hat; have HNX := Lib.hid hnx; have HWT := Lib.hid hwt; have HLEN := Lib.hid hlen
      clear hat hnx hwt hlen
      go_wp2_with (first | (at_builtin; refine wpList_append_lies _ rfl _ _ 37 rfl (b + 1) 5 i0 (.int .u8 0) 1 1 Tryz.underlying37 hi hz0 hz1 hz2 rfl (by decide) v S.length (u8s S) rfl (World.ownsRow.alloc HAT.out.own _) ⟨wr.heap.size, 0, none⟩ 1 1 [.int .u8 (n % 256)] rfl rfl (World.news_of_block (heap_alloc_new _ _)) (one_u8 _) (by decide) (by have := HLEN.out; unfold maxLen; omega) (by have := HLEN.out; omega) (by simp; omega) (wr.heap.size + 1) (by simp) ?_; intro g cap2 w5 hown hgrow hat2 hlt2; have HPUT := Lib.hid (wr_put (HAT.out.below (balloc _ _)) (by rw [u8s_byte]; exact hown) hgrow (by rcases hat2 with e | e; (left; exact e.symm); (right; exact ⟨g, rfl, by rw [e]; simp⟩))); obtain ⟨c5, z5⟩ := put_cells HAT.out hgrow) | fail)
      exact ⟨⟨k + 1, by omega, by go_num, by rw [HNX.out]; exact HPUT.out.1, HWT.out.trans ((wrote_below q0 (balloc _ _)).trans HPUT.out.2)⟩, by simp [intOf]; go_num⟩
    · have i1 : ¬ (k : Int) < (ns.length : Int) := by omega
      obtain rfl : k = ns.length := by omega
      go_wp2_with fail
      go_ret
      rw [List.take_length] at hwr
      exact ⟨rfl, hwr, hwt⟩
end Go.Proofs.YtpbdgbejcdncgaaGreatDoor.Wire
end

section
/- A WRITER OF BYTES: Text, Long, Bytes. -/
namespace Go.Proofs.YtpbdgbejcdncgaaGreatDoor.Wire
open Go.RowKit Flt Go.Proofs.YtpbdgbejcdncgaaGreatDoor.Val Go.Lib
/-- where the new row lies behind an append of a text -/
theorem str_lies {P : Program} (w : World) (base : Nat) (t u ty e : TypeId) (i : TypeInfo) (ht : P.underlying t = some (.slice e)) (hu : P.underlying u = some .string) (hi : P.info? e = some i) (hz : i.zero = some (.int .u8 0))
    (hsize : i.size = 1) (hby : i.bytes = 1) (v : Value) (n : Nat) (xs : List Value) (hown : w.ownsRow base e 1 v n xs) (s : ByteArray)
    (h63 : n + s.size ≤ 1000000) {v' : Value} {w' : World} (hr : (Builtin.append_ #[t, u] ty #[v, .string s]).run P w = .ok v' w') (hnil : v' = .slice none 0 0 ↔ v = .slice none 0 0 ∧ s.size = 0) :
    v'.ownBlock = v.ownBlock ∨ ∃ k, v'.ownBlock = some k ∧ w.heap.size ≤ k := by
  rcases hown.2 with ⟨rfl, rfl⟩ | ⟨g, cap, cur, rfl, hbg, hg, hnc, hcm, hcs, htake⟩
  · by_cases hm : s.size = 0
    · have := hnil.2 ⟨rfl, hm⟩
      subst this
      exact .inl rfl
    · have hr2 := run_append_nil_string (P := P) w t u ty e i (.int .u8 0) ht hu hi hz s (by omega) (by omega) (by rw [hby]; omega)
      rw [hr] at hr2
      injection hr2 with e1 _
      subst e1
      exact .inr ⟨_, rfl, Nat.le_refl _⟩
  · have hcs' : cur.size = cap := by simpa using hcs
    by_cases hroom : n + s.size ≤ cap
    · have hr2 := run_append_room_string (P := P) w t u ty e i ht hu hi hsize g n cap cur hg s hroom (by omega)
      rw [hr] at hr2
      injection hr2 with e1 _
      subst e1
      exact .inl rfl
    · have holds : ∀ j u, xs[j]? = some u → w.cell? ((⟨g, 0, none⟩ : Addr).add j) = some u := hown.cells (g := g) rfl
      have hxl : xs.length = n := by simpa using hown.1
      have hr2 := run_append_grow_string (P := P) w t u ty e i (.int .u8 0) ht hu hi hz ⟨g, 0, none⟩ n cap xs (by rw [hsize]; simpa using hxl) holds s (by omega) (by omega) (by rw [hby]; exact growslice_fits (by omega) (by omega))
      rw [hr] at hr2
      injection hr2 with e1 _
      subst e1
      exact .inr ⟨_, rfl, Nat.le_refl _⟩
theorem wpList_str_lies {P : Program} {w : World} {ops : Array Oper} {rest : List Oper} {o : Oper} {a : Act} {Q : Exit → Act → World → Prop} (hgd : o.guard = none) (sl x : Operand) (t u : TypeId)
    (ho : o.op = .call { callee := .builtin .append, args := #[sl, x], argTypes := #[t, u] })
    (base : Nat) (e : TypeId) (i : TypeInfo) (ht : P.underlying t = some (.slice e)) (hu : P.underlying u = some .string) (hi : P.info? e = some i) (hz : i.zero = some (.int .u8 0))
    (hsize : i.size = 1) (hby : i.bytes = 1)
    (v : Value) (n : Nat) (xs : List Value) (hs : a.eval sl = v) (hown : w.ownsRow base e 1 v n xs) (s : ByteArray) (hx : a.eval x = .string s)
    (h63 : n + s.size ≤ 1000000) (hbase : base ≤ w.heap.size)
    (h : ∀ c1 cn cc w', w'.ownsRow base e 1 (.slice c1 cn cc) (n + s.size) (xs ++ strCells s) → w.grownBy w' v.ownBlock → ((Value.slice c1 cn cc).ownBlock = v.ownBlock ∨ ∃ k, (Value.slice c1 cn cc).ownBlock = some k ∧ w.heap.size ≤ k) → wpList P ops Q rest (a.put o.dst (.slice c1 cn cc)) w') : wpList P ops Q (o :: rest) a w := by
  refine wpList_plain hgd fun K hK => ?_
  obtain ⟨v', w', hr, h2, h3, h4⟩ := run_append_own_string (P := P) w base t u o.type e i ht hu hi hz hsize hby v n xs hown s (by unfold maxLen; omega) (by omega) hbase
  have h5 := str_lies w base t u o.type e i ht hu hi hz hsize hby v n xs hown s h63 hr h4
  obtain ⟨c1, cn, cc, rfl⟩ : ∃ c1 cn cc, v' = .slice c1 cn cc := by
    rcases h2.2 with ⟨rfl, _⟩ | ⟨g, cap, cur, rfl, _⟩
    · exact ⟨_, _, _, rfl⟩
    · exact ⟨_, _, _, rfl⟩
  unfold Oper.wp execOp
  simp only [ho, resolve, invoke, builtin, Sem.run_bind, Sem.run_pure, Result.andThen_ok, List.map_toArray, List.map_cons, List.map_nil, hs, hx, hr]
  exact hK _ _ (h c1 cn cc w' h2 h3 h5)
/-- one number -/
theorem wbyte_one (b : Nat) (s : List UInt8) (n : Int) (w : World) {T : TypeId} (h : Wr w b s) (hl : s.length + 1 ≤ 1000000) :
    Calls Tryz.prog 22 #[.pointer (some ⟨b, 0, none⟩), .slice (some ⟨w.heap.size, 0, none⟩) 1 1] (w.alloc (.cells #[.int .i64 n] T)) fun e w' => e = .returned (.pointer (some ⟨b, 0, none⟩)) ∧ Wr w' b (s ++ [byteOf n]) ∧ Wrote b w w' := by
  refine (wbyte_any b s ⟨w.heap.size, 0, none⟩ [n] 1 _ (h.below (balloc _ _)) (h.free_new (balloc _ _) (Nat.le_refl _) (by simp)) (fun i hi => ?_) hl).mono ?_
  · have : i = 0 := by simpa using hi
    subst this
    exact World.cell?_alloc_at _ _ _ _ rfl
  · rintro e w' ⟨rfl, h1, h2⟩
    exact ⟨rfl, h1, (wrote_below h.lt (balloc _ _)).trans h2⟩
theorem str_u8s (t : List UInt8) : strCells ⟨t.toArray⟩ = u8s t := by simp [strCells, u8s]
set_option maxRecDepth 20000 in
set_option maxHeartbeats 4000000 in
theorem wtext_any (b : Nat) (s t : List UInt8) (w : World) (h : Wr w b s) (hl : s.length + t.length + 1 ≤ 1000000) :
    Calls Tryz.prog 24 #[.pointer (some ⟨b, 0, none⟩), .string ⟨t.toArray⟩] w fun e w' => e = .returned (.pointer (some ⟨b, 0, none⟩)) ∧ Wr w' b (s ++ encText t) ∧ Wrote b w w' := by
  obtain ⟨i0, hi, hz0, hz1, hz2⟩ := info_parts info_u8W
  have hb := fun T => wbyte_one (T := T) b s t.length w h (by omega)
  have HB := Lib.hid hb; clear hb h
  have hsz : (⟨t.toArray⟩ : ByteArray).size = t.length := by show t.toArray.size = _; simp
  have HSZ := Lib.hid hsz; clear hsz
  go_enter Tryz.func24, Tryz.ntmps24
  go_wp2_with (first | (go_at_call 22; refine (HB.out _).mono ?_; rintro e w1 ⟨rfl, ⟨v, hat⟩, hwt⟩; have c1 := hat.cb; have z1 := hat.fz; have HAT := Lib.hid hat; have HWT := Lib.hid hwt; clear hat hwt) | (at_builtin; refine wpList_str_lies rfl _ _ 37 9 rfl (b + 1) 5 i0 Tryz.underlying37 Tryz.underlying9 hi hz0 hz1 hz2 v _ _ rfl HAT.out.own ⟨t.toArray⟩ rfl (by rw [HSZ.out]; simp; omega) (Nat.succ_le_of_lt (World.block_lt_of_cell? _ _ HAT.out.cb)) ?_; intro x1 xn xc w5 hown hgrow hob; have HPUT := Lib.hid (wr_put (x := t) HAT.out (by rw [HSZ.out, str_u8s] at hown; exact hown) hgrow hob); obtain ⟨c5, z5⟩ := put_cells0 HAT.out hgrow; clear hown hgrow hob) | fail)
  go_ret
  refine ⟨rfl, ?_, HWT.out.trans HPUT.out.2⟩
  have := HPUT.out.1
  rw [List.append_assoc] at this
  exact this
end Go.Proofs.YtpbdgbejcdncgaaGreatDoor.Wire
end

section
/- A WRITER OF BYTES: Long, Bytes. -/
namespace Go.Proofs.YtpbdgbejcdncgaaGreatDoor.Wire
open Go.RowKit Flt Go.Proofs.YtpbdgbejcdncgaaGreatDoor.Val Go.Lib
theorem longAt_val (x q : Nat) : ((longAt x q).toNat : Int) = (x : Int) / 2 ^ q % 256 := by
  unfold longAt
  rw [UInt8.toNat_ofNat', Nat.mod_eq_of_lt (Nat.mod_lt _ (by decide)), Int.natCast_emod, Int.natCast_ediv, Int.natCast_pow]
  rfl
theorem u8s_long (x q : Nat) : u8s [longAt x q] = [.int .u8 ((x : Int) / 2 ^ q % 256)] := by
  show [Value.int .u8 ((longAt x q).toNat : Int)] = _
  rw [longAt_val]
theorem encLong_take (x j q : Nat) (h : q + 8 * j = 56) : (encLong x).take (j + 1) = (encLong x).take j ++ [longAt x q] := by
  match j, h with
  | 0, h => obtain rfl : q = 56 := by omega
            rfl
  | 1, h => obtain rfl : q = 48 := by omega
            rfl
  | 2, h => obtain rfl : q = 40 := by omega
            rfl
  | 3, h => obtain rfl : q = 32 := by omega
            rfl
  | 4, h => obtain rfl : q = 24 := by omega
            rfl
  | 5, h => obtain rfl : q = 16 := by omega
            rfl
  | 6, h => obtain rfl : q = 8 := by omega
            rfl
  | 7, h => obtain rfl : q = 0 := by omega
            rfl
  | n + 8, h => omega
theorem WrAt.drew {W : World} {b : Nat} {v : Value} {s : List UInt8} (h : WrAt W b v s) : WrAt W.drew b v s := ⟨h.cb, h.fz, h.own⟩
theorem wrote_drew (b : Nat) (W : World) : Wrote b W W.drew := ⟨rfl, rfl, rfl, Nat.le_refl _, fun _ h => ⟨⟨h.lt, h.ne, h.row⟩, rfl⟩⟩
set_option maxRecDepth 20000 in
set_option maxHeartbeats 4000000 in
theorem wlong_any (b : Nat) (s : List UInt8) (x : Nat) (w : World) (h : Wr w b s) (hl : s.length + 8 ≤ 1000000) :
    Calls Tryz.prog 25 #[.pointer (some ⟨b, 0, none⟩), .int .u64 x] w fun e w' => e = .returned (.pointer (some ⟨b, 0, none⟩)) ∧ Wr w' b (s ++ encLong x) ∧ Wrote b w w' := by
  have HH := Lib.hid h; clear h
  obtain ⟨i0, hi, hz0, hz1, hz2⟩ := info_parts info_u8W
  go_enter Tryz.func25, Tryz.ntmps25
  go_wp2_with fail
  go_loopw [5] (fun vi wr => ∃ j : Nat, j ≤ 8 ∧ vi = .int .i64 (56 - 8 * (j : Int)) ∧ Wr wr b (s ++ (encLong x).take j) ∧ Wrote b w wr) (fun vi _ => (RowKit.intOf vi + 8).toNat)
  case atStart => exact ⟨0, by omega, rfl, by simpa using HH.out, Wrote.refl _ _⟩
  case round =>
    obtain ⟨j, hj, rfl, hwr, hwt⟩ := hrel
    by_cases hlt : j < 8
    · obtain ⟨q, hq⟩ : ∃ q, q + 8 * j = 56 := ⟨56 - 8 * j, by omega⟩
      have hk : 56 - 8 * (j : Int) = (q : Int) := by omega
      have hq6 : q ≤ 64 := by omega
      have hnx : s ++ (encLong x).take (j + 1) = (s ++ (encLong x).take j) ++ [longAt x q] := by rw [encLong_take x j q hq, List.append_assoc]
      have hlen : (s ++ (encLong x).take j).length ≤ s.length + 7 := by simp [encLong_len]; omega
      have hend : (q : Int) - 8 = 56 - 8 * ((j + 1 : Nat) : Int) := by push_cast; omega
      rw [hk]
      obtain ⟨v, hat⟩ := hwr
      generalize s ++ (encLong x).take j = S at *
      have c0 := hat.cb
      have z0 := hat.fz
      have q0 : b < wr.heap.size := World.block_lt_of_cell? _ _ c0
      have HAT := Lib.hid hat; have HNX := Lib.hid hnx; have HWT := Lib.hid hwt; have HLEN := Lib.hid hlen; have HEND := Lib.hid hend
      clear hat hnx hwt hlen hend hk hq
      go_wp2_with fail
      go_region_law ((refine step_append_lies _ (by rfl) _ _ _ (by rfl) (b + 1) 5 i0 (.int .u8 0) 1 1 Tryz.underlying37 hi hz0 hz1 hz2 rfl (by decide) v S.length (u8s S) (by rfl) (World.ownsRow.alloc (w := wr.drew) HAT.out.own _) ⟨wr.heap.size, 0, none⟩ 1 1 [.int .u8 ((x : Int) / 2 ^ q % 256)] (by rfl) (by rfl) (World.news_of_block (heap_alloc_new _ _)) (one_u8 _) (by decide) (by have := HLEN.out; unfold maxLen; omega) (by have := HLEN.out; omega) (by simp; omega) (wr.heap.size + 1) (by simp) ?_; intro g cap2 w5 hown hgrow hat2 hlt2; have HPUT := Lib.hid (wr_put (x := [longAt x q]) (HAT.out.drew.below (balloc _ _)) (by rw [u8s_long]; exact hown) hgrow (by rcases hat2 with e | e; (left; exact e.symm); (right; exact ⟨g, rfl, by rw [e]; simp⟩))); obtain ⟨c5, z5⟩ := put_cells HAT.out.drew hgrow))
      all_goals
        go_wp2_with fail
        exact ⟨⟨j + 1, by omega, by rw [← HEND.out], by rw [HNX.out]; exact HPUT.out.1, HWT.out.trans ((wrote_drew b wr).trans ((wrote_below (W := wr.drew) q0 (balloc wr.drew _)).trans HPUT.out.2))⟩, by simp [RowKit.intOf]; omega⟩
    · have i1 : ¬ (0 : Int) ≤ 56 - 8 * (j : Int) := by omega
      obtain rfl : j = 8 := by omega
      go_wp2_with fail
      go_ret
      exact ⟨rfl, hwr, hwt⟩
end Go.Proofs.YtpbdgbejcdncgaaGreatDoor.Wire
end

section
/- A WRITER OF BYTES: a value; the bytes as a slice of one's own. -/
namespace Go.Proofs.YtpbdgbejcdncgaaGreatDoor.Wire
open Go.RowKit Flt Go.Proofs.YtpbdgbejcdncgaaGreatDoor.Val Go.Lib
def u64of (n : Int) : Nat := (n % 18446744073709551616).toNat
theorem u64of_val (n : Int) : ((u64of n : Nat) : Int) = IntKind.u64.wrap n := by
  unfold u64of
  simp only [IntKind.wrap, IntKind.bits, IntKind.signed]
  simp
  omega
/-- a value's bytes -/
def encVal (k n : Int) (x : Nat) (t : List UInt8) (y : Bool) : List UInt8 :=
  byteOf k :: (if (k == 0) = true then encLong (u64of n) else if (k == 1) = true then encLong (Ord.key x) else if (k == 2) = true then encText t else [if y then 1 else 0])
theorem encVal_len (k n : Int) (x : Nat) (t : List UInt8) (y : Bool) : (encVal k n x t y).length ≤ t.length + 9 := by
  unfold encVal
  simp only [List.length_cons]
  split
  · simp [encLong_len]
  · split
    · simp [encLong_len]
    · split
      · rw [encText_len]; omega
      · simp
theorem wr_last {W : World} {b g cap : Nat} {S : List UInt8} {z : UInt8} (h : WrAt W b (.slice (some ⟨g, 0, none⟩) (S.length + 1) cap) (S ++ [z])) :
    Wr (W.setCell ⟨g, S.length, none⟩ (.int .u8 1)) b (S ++ [1]) ∧ Wrote b W (W.setCell ⟨g, S.length, none⟩ (.int .u8 1)) := by
  have hg := h.own.lt g rfl
  have hne : b ≠ g := by omega
  have hc : (W.setCell ⟨g, S.length, none⟩ (.int .u8 1)).cell? ⟨b, 0, none⟩ = some (.slice (some ⟨g, 0, none⟩) (S.length + 1) cap) := (World.cell?_setCell_other _ _ _ _ (by intro e; injection e with e1; exact hne e1.symm)).trans h.cb
  refine ⟨⟨_, hc, by simpa using h.fz, ?_⟩, ⟨rfl, rfl, rfl, by simp, fun p hp => ?_⟩⟩
  · refine ⟨by simp [u8s], ?_⟩
    rcases h.own.2 with ⟨e, _⟩ | ⟨g2, cap2, cur, e, hb2, hgg, hn, hcm, hcs, htake⟩
    · cases e
    · injection e with e1 e2 e3
      injection e1 with e1
      injection e1 with e1
      subst e1; subst e3
      refine .inr ⟨g, cap, cur.setIfInBounds S.length (.int .u8 1), by simp, hb2, heap_setCell_same W g S.length cur _ _ hgg, by simpa using hn, hcm, by simpa using hcs, ?_⟩
      rw [Array.toList_setIfInBounds, List.take_set, show ((S ++ [1] : List UInt8)).length * 1 = (S ++ [z]).length * 1 from by simp only [List.length_append, List.length_cons, List.length_nil], htake]
      simp [u8s]
  · have hpg : p ≠ g := fun e => hp.row _ h.cb (by rw [e]; rfl)
    exact ⟨⟨by simpa using hp.lt, hp.ne, fun u hu => hp.row u (by rw [h.cb, ← hc]; exact hu)⟩, Below.heap_setCell _ _ _ _ hpg⟩
theorem last_cells {W : World} {b g cap L : Nat} {S : List UInt8} {z : UInt8} (hL : S.length = L) (h : WrAt W b (.slice (some ⟨g, 0, none⟩) (L + 1) cap) (S ++ [z])) :
    W.cell? ⟨g, L, none⟩ = some (.int .u8 (z.toNat : Int)) ∧ W.frozen? ⟨g, L, none⟩ = false := by
  subst hL
  constructor
  · have := h.own.cells (g := g) rfl S.length (.int .u8 (z.toNat : Int)) (by simp [u8s])
    have hadd : (⟨g, 0, none⟩ : Addr).add S.length = ⟨g, S.length, none⟩ := by unfold Addr.add; split <;> simp_all
    rwa [hadd] at this
  · rcases h.own.2 with ⟨e, _⟩ | ⟨g2, cap2, cur, e, hb2, hgg, _⟩
    · cases e
    · injection e with e1 e2 e3
      injection e1 with e1
      injection e1 with e1
      subst e1
      simp [World.frozen?, hgg]
/-- a number, behind a box -/
theorem wbyte_box (b : Nat) (s : List UInt8) (n : Int) (w : World) {o : Obj} {T : TypeId} (h : Wr w b s) (hl : s.length + 1 ≤ 1000000) :
    Calls Tryz.prog 22 #[.pointer (some ⟨b, 0, none⟩), .slice (some ⟨w.heap.size + 1, 0, none⟩) 1 1] ((w.alloc o).alloc (.cells #[.int .i64 n] T)) fun e w' => e = .returned (.pointer (some ⟨b, 0, none⟩)) ∧ Wr w' b (s ++ [byteOf n]) ∧ Wrote b w w' ∧ (∀ q, w'.cell? ⟨w.heap.size, q, none⟩ = (w.alloc o).cell? ⟨w.heap.size, q, none⟩) ∧ Free w' b w.heap.size := by
  have h1 := h.below (balloc w o)
  have := wbyte_one (T := T) b s n (w.alloc o) h1 hl
  rw [show (w.alloc o).heap.size = w.heap.size + 1 from by simp] at this
  refine this.mono ?_
  rintro e w' ⟨rfl, h2, h3⟩
  have hf := h.free_new (balloc w o) (Nat.le_refl _) (by simp)
  exact ⟨rfl, h2, (wrote_below h.lt (balloc _ _)).trans h3, fun q => h3.cell hf q, (h3.free _ hf).1⟩
set_option maxRecDepth 20000 in
set_option maxHeartbeats 4000000 in
theorem wvalue_any (b : Nat) (s : List UInt8) (k n : Int) (x : Nat) (t : List UInt8) (y : Bool) (w : World) (h : Wr w b s) (hx : x < 18446744073709551616) (hl : s.length + (encVal k n x t y).length ≤ 1000000) :
    Calls Tryz.prog 46 #[.pointer (some ⟨b, 0, none⟩), val k n x t y] w fun e w' => e = .returned (.pointer (some ⟨b, 0, none⟩)) ∧ Wr w' b (s ++ encVal k n x t y) ∧ Wrote b w w' := by
  have hl1 : 1 ≤ (encVal k n x t y).length := by unfold encVal; simp
  have hl0 : s.length + 1 ≤ 1000000 := by omega
  clear hl1
  have hb := fun o T => wbyte_box (o := o) (T := T) b s k w h hl0
  have HB := Lib.hid hb; clear hb h
  have hu := u64of_val n
  cases k0 : (k == 0)
  rotate_left
  · have HE := Lib.hid (show encVal k n x t y = [byteOf k] ++ encLong (u64of n) from by unfold encVal; rw [k0]; rfl)
    have HU := Lib.hid hu; clear hu
    rw [HE.out] at hl; simp only [List.length_append, encLong_len, List.length_singleton] at hl
    go_enter Tryz.func46, Tryz.ntmps46
    go_wp2_with (first | (go_at_call 22; (with_reducible refine (HB.out _ _).mono ?_); rintro e w1 ⟨rfl, hw1, ht1, hc1, hf1⟩; have q0 := hc1 0; have q1 := hc1 1; have q2 := hc1 2; have q3 := hc1 3; have q4 := hc1 4; (rw [World.cell?_alloc_at _ _ _ _ rfl] at q0 q1 q2 q3 q4); have HW1 := Lib.hid hw1; have HT1 := Lib.hid ht1; clear hw1 ht1 hc1) | (go_at_call 25; rw [← HU.out]; refine (wlong_any b _ (u64of n) _ HW1.out (by simp; omega)).mono ?_; rintro e w2 ⟨rfl, hw2, ht2⟩) | fail)
    go_ret
    exact ⟨rfl, by rw [HE.out, ← List.append_assoc]; exact hw2, HT1.out.trans ht2⟩
  cases k1 : (k == 1)
  rotate_left
  · have HE := Lib.hid (show encVal k n x t y = [byteOf k] ++ encLong (Ord.key x) from by unfold encVal; rw [k0, k1]; rfl)
    rw [HE.out] at hl; simp only [List.length_append, encLong_len, List.length_singleton] at hl
    go_enter Tryz.func46, Tryz.ntmps46
    go_wp2_with (first | (go_at_call 22; (with_reducible refine (HB.out _ _).mono ?_); rintro e w1 ⟨rfl, hw1, ht1, hc1, hf1⟩; have q0 := hc1 0; have q1 := hc1 1; have q2 := hc1 2; have q3 := hc1 3; have q4 := hc1 4; (rw [World.cell?_alloc_at _ _ _ _ rfl] at q0 q1 q2 q3 q4); have HW1 := Lib.hid hw1; have HT1 := Lib.hid ht1; clear hw1 ht1 hc1) | (go_at_call 66; refine (Ord.key_any _ hx _).mono ?_; rintro e w' ⟨rfl, rfl⟩) | (go_at_call 25; refine (wlong_any b _ (Ord.key x) _ HW1.out (by simp; omega)).mono ?_; rintro e w2 ⟨rfl, hw2, ht2⟩) | fail)
    go_ret
    exact ⟨rfl, by rw [HE.out, ← List.append_assoc]; exact hw2, HT1.out.trans ht2⟩
  cases k2 : (k == 2)
  rotate_left
  · have HE := Lib.hid (show encVal k n x t y = [byteOf k] ++ encText t from by unfold encVal; rw [k0, k1, k2]; rfl)
    rw [HE.out] at hl; simp only [List.length_append, encText_len, List.length_singleton] at hl
    go_enter Tryz.func46, Tryz.ntmps46
    go_wp2_with (first | (go_at_call 22; (with_reducible refine (HB.out _ _).mono ?_); rintro e w1 ⟨rfl, hw1, ht1, hc1, hf1⟩; have q0 := hc1 0; have q1 := hc1 1; have q2 := hc1 2; have q3 := hc1 3; have q4 := hc1 4; (rw [World.cell?_alloc_at _ _ _ _ rfl] at q0 q1 q2 q3 q4); have HW1 := Lib.hid hw1; have HT1 := Lib.hid ht1; clear hw1 ht1 hc1) | (go_at_call 24; refine (wtext_any b _ t _ HW1.out (by simp; omega)).mono ?_; rintro e w2 ⟨rfl, hw2, ht2⟩) | fail)
    go_ret
    exact ⟨rfl, by rw [HE.out, ← List.append_assoc]; exact hw2, HT1.out.trans ht2⟩
  have HE := Lib.hid (show encVal k n x t y = [byteOf k] ++ [if y then 1 else 0] from by unfold encVal; rw [k0, k1, k2]; rfl)
  rw [HE.out] at hl; simp only [List.length_append, List.length_singleton] at hl
  cases y
  · go_enter Tryz.func46, Tryz.ntmps46
    go_wp2_with (first | (go_at_call 22; (with_reducible refine (HB.out _ _).mono ?_); rintro e w1 ⟨rfl, hw1, ht1, hc1, hf1⟩; have q0 := hc1 0; have q1 := hc1 1; have q2 := hc1 2; have q3 := hc1 3; have q4 := hc1 4; (rw [World.cell?_alloc_at _ _ _ _ rfl] at q0 q1 q2 q3 q4); have HW1 := Lib.hid hw1; have HT1 := Lib.hid ht1; clear hw1 ht1 hc1) | (go_at_call 22; (with_reducible refine (wbyte_one b _ 0 w1 HW1.out (by simp; omega)).mono ?_); rintro e w2 ⟨rfl, hw2, ht2⟩; have q42 := (ht2.cell hf1 4).trans q4) | fail)
    go_ret
    exact ⟨rfl, by rw [HE.out, ← List.append_assoc]; exact hw2, HT1.out.trans ht2⟩
  · go_enter Tryz.func46, Tryz.ntmps46
    go_wp2_with (first | (go_at_call 22; (with_reducible refine (HB.out _ _).mono ?_); rintro e w1 ⟨rfl, hw1, ht1, hc1, hf1⟩; have q0 := hc1 0; have q1 := hc1 1; have q2 := hc1 2; have q3 := hc1 3; have q4 := hc1 4; (rw [World.cell?_alloc_at _ _ _ _ rfl] at q0 q1 q2 q3 q4); have HW1 := Lib.hid hw1; have HT1 := Lib.hid ht1; clear hw1 ht1 hc1) | (go_at_call 22; (with_reducible refine (wbyte_one b _ 0 w1 HW1.out (by simp; omega)).mono ?_); rintro e w2 ⟨rfl, hw2, ht2⟩; have q42 := (ht2.cell hf1 4).trans q4; obtain ⟨v, hat⟩ := hw2; obtain ⟨g, cap, rfl, hg1, hg2⟩ := hat.own.form (by simp); obtain ⟨L, hL⟩ : ∃ L, (s ++ [byteOf k]).length = L := ⟨_, rfl⟩; have hLl : L ≤ 1000000 := (by rw [← hL]; simp; omega); rw [show (s ++ [byteOf k] ++ [byteOf 0]).length = L + 1 from (by rw [List.length_append, hL]; rfl)] at hat; obtain ⟨cg, zg⟩ := last_cells hL hat; have c2 : w2.cell? ⟨b, 0, none⟩ = some (.slice (some ⟨g, 0, none⟩) (L + 1) cap) := hat.cb; have z2 := hat.fz; have HLL := Lib.hid hL; have HAT := Lib.hid hat; have HT2 := Lib.hid ht2; clear hat ht2 hL) | fail)
    have j1 : (0 : Int) ≤ (L : Int) := by omega
    have j2 : (L : Int) < (L : Int) + 1 := by omega
    go_region
    all_goals
      go_wp2_with fail
      go_ret
      have hwl := HLL.out
      subst hwl
      first
        | exact ⟨rfl, by rw [HE.out, ← List.append_assoc]; exact (wr_last HAT.out).1, HT1.out.trans (HT2.out.trans (wr_last HAT.out).2)⟩
        | exact ⟨rfl, by rw [HE.out, ← List.append_assoc]; exact (wr_last HAT.out.drew).1, HT1.out.trans (HT2.out.trans ((wrote_drew b w2).trans (wr_last HAT.out.drew).2))⟩
        | trace_state
/-- bytes in memory -/
def BytesAt (w : World) (a0 : Option Addr) (s : List UInt8) : Prop := ∀ i (h : i < s.length), ∃ a, a0 = some a ∧ w.cell? (a.add i) = some (.int .u8 (s[i].toNat : Int))
theorem BytesAt.below {w w2 : World} {a0 : Option Addr} {s : List UInt8} (h : BytesAt w a0 s) (hb : Below w.heap.size w w2) : BytesAt w2 a0 s := fun i hi => by
  obtain ⟨a, e, h1⟩ := h i hi
  exact ⟨a, e, (hb.cell (World.block_lt_of_cell? _ _ h1)).trans h1⟩
theorem own_bytes {w : World} {base : Nat} {v : Value} {s : List UInt8} (h : w.ownsRow base 5 1 v s.length (u8s s)) : ∃ a0 cap, v = .slice a0 s.length cap ∧ s.length ≤ cap ∧ cap ≤ maxLen ∧ BytesAt w a0 s := by
  rcases h.2 with ⟨rfl, h0⟩ | ⟨g, cp, cur, rfl, hb, hg, hn, hc, _⟩
  · have : s = [] := List.eq_nil_of_length_eq_zero h0
    subst this
    exact ⟨none, 0, rfl, Nat.le_refl _, Nat.zero_le _, fun i hi => absurd hi (Nat.not_lt_zero _)⟩
  · refine ⟨some ⟨g, 0, none⟩, cp, rfl, hn, hc, fun i hi => ⟨_, rfl, ?_⟩⟩
    exact h.cells rfl i _ (by simp [u8s, List.getElem?_eq_getElem hi])
set_option maxRecDepth 20000 in
set_option maxHeartbeats 4000000 in
theorem wbytes_any (b : Nat) (s : List UInt8) (w : World) (h : Wr w b s) (hl : s.length ≤ 1000000) :
    Calls Tryz.prog 28 #[.pointer (some ⟨b, 0, none⟩)] w fun e w' => (∃ a0 cap, e = .returned (.slice a0 s.length cap) ∧ s.length ≤ cap ∧ cap ≤ maxLen ∧ BytesAt w' a0 s) ∧ Below w.heap.size w w' := by
  obtain ⟨i0, hi, hz0, hz1, hz2⟩ := info_parts info_u8W
  obtain ⟨v, hat⟩ := h
  have c0 := hat.cb
  obtain ⟨a1, cap1, rfl, hcap1, hm1, hby⟩ := own_bytes hat.own
  have HBY := Lib.hid hby; clear hby hat
  cases a1 with
  | none =>
    have hs : s = [] := by
      cases s with
      | nil => rfl
      | cons x t => obtain ⟨a, e, _⟩ := HBY.out 0 (by simp); cases e
    subst hs
    go_enter Tryz.func28, Tryz.ntmps28
    go_wp2_with fail
    go_ret
    exact ⟨⟨none, 0, rfl, Nat.le_refl _, Nat.zero_le _, fun i hi => absurd hi (Nat.not_lt_zero _)⟩, Below.refl _ _⟩
  | some a =>
    go_enter Tryz.func28, Tryz.ntmps28
    go_wp2_with (first | (at_builtin; refine wpList_append_own _ rfl _ _ 37 rfl w.heap.size 5 i0 (.int .u8 0) 1 1 Tryz.underlying37 hi hz0 hz1 hz2 rfl (by decide) (.slice none 0 0) 0 [] rfl (World.ownsRow_nil _ _ _ _) a s.length cap1 (u8s s) rfl (by simp [u8s]) (fun j u hj => (by have hj2 : j < s.length := (by have := (List.getElem?_eq_some_iff.1 hj).1; simpa [u8s] using this); obtain ⟨a2, e2, h2⟩ := HBY.out j hj2; cases e2; rw [h2, ← hj]; simp [u8s, List.getElem?_eq_getElem hj2])) (u8s_one _) (by unfold maxLen; omega) (by omega) (Nat.le_refl _) ?_; intro v9 w6 hown6 hgrow6 hnil6; clear hnil6) | fail)
    rw [Nat.zero_add, List.nil_append] at hown6
    obtain ⟨a2, cap2, rfl, h1, h2, h3⟩ := own_bytes hown6
    go_ret
    exact ⟨⟨a2, cap2, rfl, h1, h2, h3⟩, Below.grown (Below.refl _ _) hgrow6 (Nat.le_refl _) (fun q hq => by cases hq)⟩
end Go.Proofs.YtpbdgbejcdncgaaGreatDoor.Wire
end

section
/- A WRITER OF BYTES: a vararg's numbers; a filter, an event, a rule. -/
namespace Go.Proofs.YtpbdgbejcdncgaaGreatDoor.Wire
open Go.RowKit Flt Go.Proofs.YtpbdgbejcdncgaaGreatDoor.Val Go.Lib
attribute [local go_sem] run_store_flt
/-- a vararg's numbers in a block that a writer leaves alone -/
structure VA (W : World) (b p : Nat) (ns : List Int) : Prop where
  free : Free W b p
  cells : ∀ i (hi : i < ns.length), W.cell? ((⟨p, 0, none⟩ : Addr).add i) = some (.int .i64 ns[i])
theorem VA.wrote {W W2 : World} {b p : Nat} {ns : List Int} (h : VA W b p ns) (hw : Wrote b W W2) : VA W2 b p ns := by
  refine ⟨(hw.free p h.free).1, fun i hi => ?_⟩
  have hadd : ∀ i, (⟨p, 0, none⟩ : Addr).add i = ⟨p, i, none⟩ := fun i => by unfold Addr.add; split <;> simp_all
  have := h.cells i hi
  rw [hadd] at this ⊢
  exact (hw.cell h.free i).trans this
theorem va_one {W : World} {b : Nat} {s : List UInt8} (n : Int) (T : TypeId) (h : Wr W b s) : VA (W.alloc (.cells #[.int .i64 n] T)) b W.heap.size [n] := by
  refine ⟨h.free_new (balloc _ _) (Nat.le_refl _) (by simp), fun i hi => ?_⟩
  have : i = 0 := by simpa using hi
  subst this
  exact World.cell?_alloc_at _ _ _ _ rfl
theorem wbyte_va {b : Nat} {s : List UInt8} {p : Nat} {ns : List Int} {w : World} (h : Wr w b s) (hv : VA w b p ns) (hl : s.length + ns.length ≤ 1000000) :
    Calls Tryz.prog 22 #[.pointer (some ⟨b, 0, none⟩), .slice (some ⟨p, 0, none⟩) ns.length ns.length] w fun e w' => e = .returned (.pointer (some ⟨b, 0, none⟩)) ∧ Wr w' b (s ++ ns.map byteOf) ∧ Wrote b w w' :=
  wbyte_any b s ⟨p, 0, none⟩ ns ns.length w h hv.free hv.cells hl
theorem wr_drew {W : World} {b : Nat} {s : List UInt8} (h : Wr W b s) : Wr W.drew b s := by obtain ⟨v, h⟩ := h; exact ⟨v, h.drew⟩
def encCond (c : C) : List UInt8 := encText c.name ++ [byteOf c.op] ++ encVal c.val.kind c.val.int c.val.num c.val.text c.val.yes
def encConds (l : List C) : List UInt8 := l.flatMap encCond
def encFilter (sf : List UInt8) (l : List C) : List UInt8 := encText sf ++ [byteOf l.length] ++ encConds l
theorem encConds_succ (l : List C) (k : Nat) (h : k < l.length) : encConds (l.take (k + 1)) = encConds (l.take k) ++ encCond l[k] := by
  unfold encConds
  rw [List.take_add_one, List.getElem?_eq_getElem h, List.flatMap_append]
  simp
theorem encConds_le (l : List C) (k : Nat) : (encConds (l.take k)).length ≤ (encConds l).length := by
  have : encConds l = encConds (l.take k) ++ encConds (l.drop k) := by
    unfold encConds
    rw [← List.flatMap_append, List.take_append_drop]
  rw [this, List.length_append]; omega
set_option maxRecDepth 20000 in
set_option maxHeartbeats 4000000 in
theorem wfilter_any (b : Nat) (s sf : List UInt8) (a0 : Option Addr) (cap : Nat) (l : List C) (w w0 : World) (h : Wr w b s) (hcl : Conds w0 a0 l) (hb0 : Below w0.heap.size w0 w) (hle : w0.heap.size ≤ b) (hnum : ∀ c ∈ l, c.val.num < 18446744073709551616) (hl : s.length + (encFilter sf l).length ≤ 1000000) (hlm : l.length ≤ 1000000) :
    Calls Tryz.prog 27 #[.pointer (some ⟨b, 0, none⟩), ev sf a0 l.length cap] w fun e w' => e = .returned (.pointer (some ⟨b, 0, none⟩)) ∧ Wr w' b (s ++ encFilter sf l) ∧ Wrote b w w' := by
  have hlen : s.length + sf.length + 2 + (encConds l).length ≤ 1000000 := by
    unfold encFilter at hl
    simp only [List.length_append, encText_len, List.length_singleton] at hl
    omega
  clear hl
  have hcn : ∀ W, Wrote b w W → Conds W a0 l := fun W hb => hcl.below (hb0.trans (hb.below h hle))
  have HWR := Lib.hid h; have HH := Lib.hid h
  have HCN := Lib.hid hcn; have HNUM := Lib.hid hnum
  clear h hcl hb0 hnum hle hcn
  go_enter Tryz.func27, Tryz.ntmps27
  go_upto_region 1 with fail
  replace HWR := Lib.hid (HWR.out.below (balloc w (.cells #[.string ⟨sf.toArray⟩, .slice a0 l.length cap] 24)))
  have hfr := HH.out.free_new (balloc w (.cells #[.string ⟨sf.toArray⟩, .slice a0 l.length cap] 24)) (Nat.le_refl _) (by simp)
  have hx0 := box2_new w sf a0 l.length cap 24
  have hwt0 := wrote_below HH.out.lt (balloc w (.cells #[.string ⟨sf.toArray⟩, .slice a0 l.length cap] 24))
  generalize w.alloc _ = W0 at *
  have hsall : ∀ W, Wrote b W0 W → (fun w' => w'.cell? ⟨w.heap.size, 0, none⟩ = some (.string ⟨sf.toArray⟩) ∧ w'.cell? ⟨w.heap.size, 1, none⟩ = some (.slice a0 l.length cap)) W := fun W hb => ⟨(hb.cell hfr 0).trans hx0.1, (hb.cell hfr 1).trans hx0.2⟩
  have HSALL := Lib.hid hsall; have HWT0 := Lib.hid hwt0; have HFR := Lib.hid hfr
  clear hsall hwt0 hfr hx0
  go_cut [15] (fun va wx => Hid (Wr wx b (s ++ encText sf ++ [byteOf l.length])) ∧ Hid (Wrote b W0 wx))
  case first =>
    clear HCN HNUM HH
    refine wp_region_held_drew (S := (fun w' => w'.cell? ⟨w.heap.size, 0, none⟩ = some (.string ⟨sf.toArray⟩) ∧ w'.cell? ⟨w.heap.size, 1, none⟩ = some (.slice a0 l.length cap))) (by kernel_rfl) ?_ (fun hq0 => ?_)
    · exact HSALL.out _ (wrote_drew b W0)
    have HBB : Hid (Wrote b W0 W0.drew) := Lib.hid (wrote_drew b W0)
    replace HWR := Lib.hid (wr_drew HWR.out)
    generalize W0.drew = D0 at *
    (refine wpAnyH_take (i := 0) (oi := ?_) (v := ?_) ?_ (by kernel_rfl) (by kernel_rfl) (by kernel_rfl) ?_ (Or.inl ⟨?_, ?_⟩) (by assumption) ?_; rotate_left 2; (· (simp only [List.getElem?_toArray, List.getElem?_cons_zero]; first | done | rfl)); (· exact (fun _ _ _ h => h)); (· rfl); (· (intro w hSw; (try dsimp only at hSw); go_simp; (try with_reducible rfl))))
    (try simp only [Act.put, List.setIfInBounds_toArray, List.set_cons_zero, List.set_cons_succ])
    (refine wpAnyH_take (i := 1) (oi := ?_) (v := ?_) ?_ (by kernel_rfl) (by kernel_rfl) (by kernel_rfl) ?_ (Or.inl ⟨?_, ?_⟩) (by assumption) ?_; rotate_left 2; (· (simp only [List.getElem?_toArray, List.getElem?_cons_succ, List.getElem?_cons_zero]; first | done | rfl)); (· exact (fun _ _ _ h => h)); (· rfl); (· (intro w hSw; (try dsimp only at hSw); go_simp; (try with_reducible rfl))))
    (try simp only [Act.put, List.setIfInBounds_toArray, List.set_cons_zero, List.set_cons_succ])
    (refine wpAnyH_take (i := 2) (oi := ?_) (v := ?_) ?_ (by kernel_rfl) (by kernel_rfl) (by kernel_rfl) ?_ (Or.inl ⟨?_, ?_⟩) (by assumption) ?_; rotate_left 2; (· (simp only [List.getElem?_toArray, List.getElem?_cons_succ, List.getElem?_cons_zero]; first | done | rfl)); (· exact (fun _ _ _ h => h)); (· rfl); (· (intro w hSw; (try dsimp only at hSw); go_simp; (try with_reducible rfl))))
    (try simp only [Act.put, List.setIfInBounds_toArray, List.set_cons_zero, List.set_cons_succ])
    (refine wpAnyH_take (i := 4) (oi := ?_) (v := ?_) ?_ (by kernel_rfl) (by kernel_rfl) (by kernel_rfl) ?_ (Or.inl ⟨?_, ?_⟩) (by assumption) ?_; rotate_left 2; (· (simp only [List.getElem?_toArray, List.getElem?_cons_succ, List.getElem?_cons_zero]; first | done | rfl)); (· exact (fun _ _ _ h => h)); (· rfl); (· (intro w hSw; (try dsimp only at hSw); go_simp; (try with_reducible rfl))))
    (try simp only [Act.put, List.setIfInBounds_toArray, List.set_cons_zero, List.set_cons_succ])
    (refine wpAnyH_take (i := 5) (oi := ?_) (v := ?_) ?_ (by kernel_rfl) (by kernel_rfl) (by kernel_rfl) ?_ (Or.inl ⟨?_, ?_⟩) (by assumption) ?_; rotate_left 2; (· (simp only [List.getElem?_toArray, List.getElem?_cons_succ, List.getElem?_cons_zero]; first | done | rfl)); (· exact (fun _ _ _ h => h)); (· rfl); (· (intro w hSw; (try dsimp only at hSw); go_simp; (try with_reducible rfl))))
    (try simp only [Act.put, List.setIfInBounds_toArray, List.set_cons_zero, List.set_cons_succ])
    (refine wpAnyH_take (i := 6) (oi := ?_) (v := ?_) ?_ (by kernel_rfl) (by kernel_rfl) (by kernel_rfl) ?_ (Or.inl ⟨?_, ?_⟩) (by assumption) ?_; rotate_left 2; (· (simp only [List.getElem?_toArray, List.getElem?_cons_succ, List.getElem?_cons_zero]; first | done | rfl)); (· exact (fun _ _ _ h => h)); (· rfl); (· (intro w hSw; (try dsimp only at hSw); go_simp; (try with_reducible rfl))))
    (try simp only [Act.put, List.setIfInBounds_toArray, List.set_cons_zero, List.set_cons_succ])
    refine wpAnyH_ready (rs := [3, 7]) (by kernel_rfl) (by simp) ?_
    refine AllReadyH.cons (o := ?_) ?_ (fun K hK => ?_) ?_
    rotate_left 1
    · (simp only [List.getElem?_toArray, List.getElem?_cons_succ, List.getElem?_cons_zero]; first | done | rfl)
    rotate_left 1
    refine AllReadyH.cons (o := ?_) ?_ (fun K hK => ?_) AllReadyH.nil
    rotate_left 1
    · (simp only [List.getElem?_toArray, List.getElem?_cons_succ, List.getElem?_cons_zero]; first | done | rfl)
    rotate_left 1
    · skip
      go_simp
      go_at_call 24
      refine (wtext_any b _ sf _ HWR.out (by omega)).mono ?_
      rintro e D1 ⟨rfl, hwr, hwt⟩
      first | (refine hK.out _ _ ?_ (fun hq1 => ?_)) | (go_wp2_with fail; refine hK.out _ _ ?_ (fun hq1 => ?_))
      · exact HSALL.out _ (HBB.out.trans hwt)
      clear hK K
      (try simp only [Act.put, List.setIfInBounds_toArray, List.set_cons_zero, List.set_cons_succ])
      clear hq0
      replace HBB := Lib.hid (HBB.out.trans hwt)
      replace HWR := Lib.hid hwr
      clear hwr hwt
      refine wpAnyH_ready (rs := [7]) (by kernel_rfl) (by simp) ?_
      refine AllReadyH.cons (o := ?_) ?_ (fun K hK => ?_) AllReadyH.nil
      rotate_left 1
      · (simp only [List.getElem?_toArray, List.getElem?_cons_succ, List.getElem?_cons_zero]; first | done | rfl)
      go_simp
      refine hK.out _ _ ?_ (fun hq2 => ?_)
      · exact HSALL.out _ (HBB.out.trans (wrote_below HWR.out.lt (balloc _ _)))
      clear hK K
      (try simp only [Act.put, List.setIfInBounds_toArray, List.set_cons_zero, List.set_cons_succ])
      clear hq1
      generalize hD : World.alloc D1 _ = D2 at hq2 ⊢
      have hb : Below D1.heap.size D1 D2 := by rw [← hD]; exact balloc _ _
      have Vp := Lib.hid (va_one (l.length : Int) 3 HWR.out); rw [hD] at Vp
      clear hD
      have ht := wrote_below HWR.out.lt hb
      replace HBB := Lib.hid (HBB.out.trans ht)
      replace HWR := Lib.hid (HWR.out.below hb)
      clear hb ht
      generalize D1.heap.size = p at *
      refine wpAnyH_ready (rs := [8]) (by kernel_rfl) (by simp) ?_
      refine AllReadyH.cons (o := ?_) ?_ (fun K hK => ?_) AllReadyH.nil
      rotate_left 1
      · (simp only [List.getElem?_toArray, List.getElem?_cons_succ, List.getElem?_cons_zero]; first | done | rfl)
      go_simp
      go_at_call 22
      refine (wbyte_va HWR.out Vp.out (by simp [encText_len]; omega)).mono ?_
      rintro e D3 ⟨rfl, hwr, hwt⟩
      first | (refine hK.out _ _ ?_ (fun hq3 => ?_)) | (go_wp2_with fail; refine hK.out _ _ ?_ (fun hq3 => ?_))
      · exact HSALL.out _ (HBB.out.trans hwt)
      clear hK K
      (try simp only [Act.put, List.setIfInBounds_toArray, List.set_cons_zero, List.set_cons_succ])
      clear hq2
      replace Vp := Lib.hid (Vp.out.wrote hwt)
      replace HBB := Lib.hid (HBB.out.trans hwt)
      replace HWR := Lib.hid hwr
      clear hwr hwt
      refine wpAnyH_done (by kernel_rfl) ?_ _
      go_wp2_with fail
      go_meet
      exact ⟨HWR, HBB⟩
    · skip
      go_simp
      refine hK.out _ _ ?_ (fun hq1 => ?_)
      · exact HSALL.out _ (HBB.out.trans (wrote_below HWR.out.lt (balloc _ _)))
      clear hK K
      (try simp only [Act.put, List.setIfInBounds_toArray, List.set_cons_zero, List.set_cons_succ])
      clear hq0
      generalize hD : World.alloc D0 _ = D4 at hq1 ⊢
      have hb : Below D0.heap.size D0 D4 := by rw [← hD]; exact balloc _ _
      have Vp := Lib.hid (va_one (l.length : Int) 3 HWR.out); rw [hD] at Vp
      clear hD
      have ht := wrote_below HWR.out.lt hb
      replace HBB := Lib.hid (HBB.out.trans ht)
      replace HWR := Lib.hid (HWR.out.below hb)
      clear hb ht
      generalize D0.heap.size = p at *
      refine wpAnyH_ready (rs := [3]) (by kernel_rfl) (by simp) ?_
      refine AllReadyH.cons (o := ?_) ?_ (fun K hK => ?_) AllReadyH.nil
      rotate_left 1
      · (simp only [List.getElem?_toArray, List.getElem?_cons_succ, List.getElem?_cons_zero]; first | done | rfl)
      go_simp
      go_at_call 24
      refine (wtext_any b _ sf _ HWR.out (by omega)).mono ?_
      rintro e D5 ⟨rfl, hwr, hwt⟩
      first | (refine hK.out _ _ ?_ (fun hq2 => ?_)) | (go_wp2_with fail; refine hK.out _ _ ?_ (fun hq2 => ?_))
      · exact HSALL.out _ (HBB.out.trans hwt)
      clear hK K
      (try simp only [Act.put, List.setIfInBounds_toArray, List.set_cons_zero, List.set_cons_succ])
      clear hq1
      replace Vp := Lib.hid (Vp.out.wrote hwt)
      replace HBB := Lib.hid (HBB.out.trans hwt)
      replace HWR := Lib.hid hwr
      clear hwr hwt
      refine wpAnyH_ready (rs := [8]) (by kernel_rfl) (by simp) ?_
      refine AllReadyH.cons (o := ?_) ?_ (fun K hK => ?_) AllReadyH.nil
      rotate_left 1
      · (simp only [List.getElem?_toArray, List.getElem?_cons_succ, List.getElem?_cons_zero]; first | done | rfl)
      go_simp
      go_at_call 22
      refine (wbyte_va HWR.out Vp.out (by simp [encText_len]; omega)).mono ?_
      rintro e D6 ⟨rfl, hwr, hwt⟩
      first | (refine hK.out _ _ ?_ (fun hq3 => ?_)) | (go_wp2_with fail; refine hK.out _ _ ?_ (fun hq3 => ?_))
      · exact HSALL.out _ (HBB.out.trans hwt)
      clear hK K
      (try simp only [Act.put, List.setIfInBounds_toArray, List.set_cons_zero, List.set_cons_succ])
      clear hq2
      replace Vp := Lib.hid (Vp.out.wrote hwt)
      replace HBB := Lib.hid (HBB.out.trans hwt)
      replace HWR := Lib.hid hwr
      clear hwr hwt
      refine wpAnyH_done (by kernel_rfl) ?_ _
      go_wp2_with fail
      go_meet
      exact ⟨HWR, HBB⟩
  case rest =>
    obtain ⟨HW1, HT1⟩ := hcut
    obtain ⟨x0, x1⟩ := HSALL.out _ HT1.out
    have HT2 := Lib.hid (HWT0.out.trans HT1.out)
    clear HWR HSALL HFR
    go_wp2_with fail
    go_loopw [19] (fun vi wr => ∃ k : Nat, k ≤ l.length ∧ vi = .int .i64 k ∧ Wr wr b (s ++ encText sf ++ [byteOf l.length] ++ encConds (l.take k)) ∧ Wrote b w wr) (fun vi _ => l.length - (RowKit.intOf vi).toNat)
    case atStart => exact ⟨0, Nat.zero_le _, rfl, by simpa [encConds] using HW1.out, HT2.out⟩
    case round =>
      obtain ⟨k, hk, rfl, hwr, hwt⟩ := hrel
      by_cases hlt : k < l.length
      · have i1 : (k : Int) < (l.length : Int) := by omega
        have i0 : (0 : Int) ≤ (k : Int) := by omega
        obtain ⟨a, rfl, v0, v1, v2, v3, v4, v5, v6⟩ := (HCN.out _ hwt) k hlt
        have hnm := HNUM.out _ (List.getElem_mem hlt)
        have hsu := encConds_succ l k hlt
        have hle1 := encConds_le l (k + 1)
        have hla : (s ++ encText sf ++ [byteOf l.length] ++ encConds (l.take k)).length = s.length + sf.length + 2 + (encConds (l.take k)).length := by simp [encText_len]; omega
        rw [hsu, List.length_append] at hle1
        generalize l[k] = c at *
        generalize hS : s ++ encText sf ++ [byteOf l.length] ++ encConds (l.take k) = S at *
        have HSU := Lib.hid hsu; have HS := Lib.hid hS; have HWT := Lib.hid hwt; have HWQ := Lib.hid hwr
        obtain ⟨nm, op, ⟨k1, n1, x1', t1, y1⟩⟩ := c
        dsimp only at hnm v0 v1 v2 v3 v4 v5 v6
        have hlc : S.length + nm.length + 2 + (encVal k1 n1 x1' t1 y1).length ≤ 1000000 := by
          unfold encCond at hle1
          simp only [List.length_append, encText_len, List.length_singleton] at hle1
          omega
        clear hsu hS hwt hwr hle1 hla
        go_upto_region 5 with fail
        have hcat := cat_new wr ⟨nm, op, ⟨k1, n1, x1', t1, y1⟩⟩ 49
        dsimp only at hcat
        have hal := balloc wr (.cells #[.string ⟨nm.toArray⟩, .int .i64 op, .int .i64 k1, .int .i64 n1, .float .f64 x1', .string ⟨t1.toArray⟩, .bool y1] 49)
        have hsz : wr.heap.size < (wr.alloc (.cells #[.string ⟨nm.toArray⟩, .int .i64 op, .int .i64 k1, .int .i64 n1, .float .f64 x1', .string ⟨t1.toArray⟩, .bool y1] 49)).heap.size := by simp
        generalize World.alloc wr _ = W1 at *
        have hfr := HWQ.out.free_new hal (Nat.le_refl _) hsz
        have hwt1 := wrote_below HWQ.out.lt hal
        have hsall : ∀ W, Wrote b W1 W → (fun w' => w'.cell? ⟨wr.heap.size, 0, none⟩ = some (.string ⟨nm.toArray⟩) ∧ w'.cell? ⟨wr.heap.size, 1, none⟩ = some (.int .i64 op) ∧ w'.cell? ⟨wr.heap.size, 2, none⟩ = some (.int .i64 k1) ∧ w'.cell? ⟨wr.heap.size, 3, none⟩ = some (.int .i64 n1) ∧ w'.cell? ⟨wr.heap.size, 4, none⟩ = some (.float .f64 x1') ∧ w'.cell? ⟨wr.heap.size, 5, none⟩ = some (.string ⟨t1.toArray⟩) ∧ w'.cell? ⟨wr.heap.size, 6, none⟩ = some (.bool y1)) W := fun W hb => ⟨(hb.cell hfr 0).trans hcat.1, (hb.cell hfr 1).trans hcat.2.1, (hb.cell hfr 2).trans hcat.2.2.1, (hb.cell hfr 3).trans hcat.2.2.2.1, (hb.cell hfr 4).trans hcat.2.2.2.2.1, (hb.cell hfr 5).trans hcat.2.2.2.2.2.1, (hb.cell hfr 6).trans hcat.2.2.2.2.2.2⟩
        have HSALL := Lib.hid hsall; have HWT1 := Lib.hid (HWT.out.trans hwt1); have HWR := Lib.hid (HWQ.out.below hal)
        clear hsall hwt1 hfr hcat hal hsz v0 v1 v2 v3 v4 v5 v6 HWQ HWT
        refine wp_region_held_drew (S := (fun w' => w'.cell? ⟨wr.heap.size, 0, none⟩ = some (.string ⟨nm.toArray⟩) ∧ w'.cell? ⟨wr.heap.size, 1, none⟩ = some (.int .i64 op) ∧ w'.cell? ⟨wr.heap.size, 2, none⟩ = some (.int .i64 k1) ∧ w'.cell? ⟨wr.heap.size, 3, none⟩ = some (.int .i64 n1) ∧ w'.cell? ⟨wr.heap.size, 4, none⟩ = some (.float .f64 x1') ∧ w'.cell? ⟨wr.heap.size, 5, none⟩ = some (.string ⟨t1.toArray⟩) ∧ w'.cell? ⟨wr.heap.size, 6, none⟩ = some (.bool y1))) (by kernel_rfl) ?_ (fun hq0 => ?_)
        · exact HSALL.out _ (wrote_drew b W1)
        have HBB : Hid (Wrote b W1 W1.drew) := Lib.hid (wrote_drew b W1)
        replace HWR := Lib.hid (wr_drew HWR.out)
        generalize W1.drew = D0 at *
        (refine wpAnyH_take (i := 0) (oi := ?_) (v := ?_) ?_ (by kernel_rfl) (by kernel_rfl) (by kernel_rfl) ?_ (Or.inl ⟨?_, ?_⟩) (by assumption) ?_; rotate_left 2; (· (simp only [List.getElem?_toArray, List.getElem?_cons_zero]; first | done | rfl)); (· exact (fun _ _ _ h => h)); (· rfl); (· (intro w hSw; (try dsimp only at hSw); go_simp; (try with_reducible rfl))))
        (try simp only [Act.put, List.setIfInBounds_toArray, List.set_cons_zero, List.set_cons_succ])
        (refine wpAnyH_take (i := 1) (oi := ?_) (v := ?_) ?_ (by kernel_rfl) (by kernel_rfl) (by kernel_rfl) ?_ (Or.inl ⟨?_, ?_⟩) (by assumption) ?_; rotate_left 2; (· (simp only [List.getElem?_toArray, List.getElem?_cons_succ, List.getElem?_cons_zero]; first | done | rfl)); (· exact (fun _ _ _ h => h)); (· rfl); (· (intro w hSw; (try dsimp only at hSw); go_simp; (try with_reducible rfl))))
        (try simp only [Act.put, List.setIfInBounds_toArray, List.set_cons_zero, List.set_cons_succ])
        (refine wpAnyH_take (i := 2) (oi := ?_) (v := ?_) ?_ (by kernel_rfl) (by kernel_rfl) (by kernel_rfl) ?_ (Or.inl ⟨?_, ?_⟩) (by assumption) ?_; rotate_left 2; (· (simp only [List.getElem?_toArray, List.getElem?_cons_succ, List.getElem?_cons_zero]; first | done | rfl)); (· exact (fun _ _ _ h => h)); (· rfl); (· (intro w hSw; (try dsimp only at hSw); go_simp; (try with_reducible rfl))))
        (try simp only [Act.put, List.setIfInBounds_toArray, List.set_cons_zero, List.set_cons_succ])
        (refine wpAnyH_take (i := 4) (oi := ?_) (v := ?_) ?_ (by kernel_rfl) (by kernel_rfl) (by kernel_rfl) ?_ (Or.inl ⟨?_, ?_⟩) (by assumption) ?_; rotate_left 2; (· (simp only [List.getElem?_toArray, List.getElem?_cons_succ, List.getElem?_cons_zero]; first | done | rfl)); (· exact (fun _ _ _ h => h)); (· rfl); (· (intro w hSw; (try dsimp only at hSw); go_simp; (try with_reducible rfl))))
        (try simp only [Act.put, List.setIfInBounds_toArray, List.set_cons_zero, List.set_cons_succ])
        (refine wpAnyH_take (i := 5) (oi := ?_) (v := ?_) ?_ (by kernel_rfl) (by kernel_rfl) (by kernel_rfl) ?_ (Or.inl ⟨?_, ?_⟩) (by assumption) ?_; rotate_left 2; (· (simp only [List.getElem?_toArray, List.getElem?_cons_succ, List.getElem?_cons_zero]; first | done | rfl)); (· exact (fun _ _ _ h => h)); (· rfl); (· (intro w hSw; (try dsimp only at hSw); go_simp; (try with_reducible rfl))))
        (try simp only [Act.put, List.setIfInBounds_toArray, List.set_cons_zero, List.set_cons_succ])
        (refine wpAnyH_take (i := 8) (oi := ?_) (v := ?_) ?_ (by kernel_rfl) (by kernel_rfl) (by kernel_rfl) ?_ (Or.inl ⟨?_, ?_⟩) (by assumption) ?_; rotate_left 2; (· (simp only [List.getElem?_toArray, List.getElem?_cons_succ, List.getElem?_cons_zero]; first | done | rfl)); (· exact (fun _ _ _ h => h)); (· rfl); (· (intro w hSw; (try dsimp only at hSw); go_simp; (try with_reducible rfl))))
        (try simp only [Act.put, List.setIfInBounds_toArray, List.set_cons_zero, List.set_cons_succ])
        (refine wpAnyH_take (i := 9) (oi := ?_) (v := ?_) ?_ (by kernel_rfl) (by kernel_rfl) (by kernel_rfl) ?_ (Or.inl ⟨?_, ?_⟩) (by assumption) ?_; rotate_left 2; (· (simp only [List.getElem?_toArray, List.getElem?_cons_succ, List.getElem?_cons_zero]; first | done | rfl)); (· exact (fun _ _ _ h => h)); (· rfl); (· (intro w hSw; (try dsimp only at hSw); go_simp; (try with_reducible rfl))))
        (try simp only [Act.put, List.setIfInBounds_toArray, List.set_cons_zero, List.set_cons_succ])
        refine wpAnyH_ready (rs := [3, 6]) (by kernel_rfl) (by simp) ?_
        refine AllReadyH.cons (o := ?_) ?_ (fun K hK => ?_) ?_
        rotate_left 1
        · (simp only [List.getElem?_toArray, List.getElem?_cons_succ, List.getElem?_cons_zero]; first | done | rfl)
        rotate_left 1
        refine AllReadyH.cons (o := ?_) ?_ (fun K hK => ?_) AllReadyH.nil
        rotate_left 1
        · (simp only [List.getElem?_toArray, List.getElem?_cons_succ, List.getElem?_cons_zero]; first | done | rfl)
        rotate_left 1
        · skip
          go_simp
          go_at_call 24
          refine (wtext_any b _ nm _ HWR.out (by omega)).mono ?_
          rintro e D1 ⟨rfl, hwr, hwt⟩
          first | (refine hK.out _ _ ?_ (fun hq1 => ?_)) | (go_wp2_with fail; refine hK.out _ _ ?_ (fun hq1 => ?_))
          · exact HSALL.out _ (HBB.out.trans hwt)
          clear hK K
          (try simp only [Act.put, List.setIfInBounds_toArray, List.set_cons_zero, List.set_cons_succ])
          clear hq0
          replace HBB := Lib.hid (HBB.out.trans hwt)
          replace HWR := Lib.hid hwr
          clear hwr hwt
          refine wpAnyH_ready (rs := [6]) (by kernel_rfl) (by simp) ?_
          refine AllReadyH.cons (o := ?_) ?_ (fun K hK => ?_) AllReadyH.nil
          rotate_left 1
          · (simp only [List.getElem?_toArray, List.getElem?_cons_succ, List.getElem?_cons_zero]; first | done | rfl)
          go_simp
          refine hK.out _ _ ?_ (fun hq2 => ?_)
          · exact HSALL.out _ (HBB.out.trans (wrote_below HWR.out.lt (balloc _ _)))
          clear hK K
          (try simp only [Act.put, List.setIfInBounds_toArray, List.set_cons_zero, List.set_cons_succ])
          clear hq1
          generalize hD : World.alloc D1 _ = D2 at hq2 ⊢
          have hb : Below D1.heap.size D1 D2 := by rw [← hD]; exact balloc _ _
          have Vp := Lib.hid (va_one op 3 HWR.out); rw [hD] at Vp
          clear hD
          have ht := wrote_below HWR.out.lt hb
          replace HBB := Lib.hid (HBB.out.trans ht)
          replace HWR := Lib.hid (HWR.out.below hb)
          clear hb ht
          generalize D1.heap.size = p at *
          refine wpAnyH_ready (rs := [7]) (by kernel_rfl) (by simp) ?_
          refine AllReadyH.cons (o := ?_) ?_ (fun K hK => ?_) AllReadyH.nil
          rotate_left 1
          · (simp only [List.getElem?_toArray, List.getElem?_cons_succ, List.getElem?_cons_zero]; first | done | rfl)
          go_simp
          go_at_call 22
          refine (wbyte_va HWR.out Vp.out (by simp [encText_len]; omega)).mono ?_
          rintro e D3 ⟨rfl, hwr, hwt⟩
          first | (refine hK.out _ _ ?_ (fun hq3 => ?_)) | (go_wp2_with fail; refine hK.out _ _ ?_ (fun hq3 => ?_))
          · exact HSALL.out _ (HBB.out.trans hwt)
          clear hK K
          (try simp only [Act.put, List.setIfInBounds_toArray, List.set_cons_zero, List.set_cons_succ])
          clear hq2
          replace Vp := Lib.hid (Vp.out.wrote hwt)
          replace HBB := Lib.hid (HBB.out.trans hwt)
          replace HWR := Lib.hid hwr
          clear hwr hwt
          refine wpAnyH_ready (rs := [10]) (by kernel_rfl) (by simp) ?_
          refine AllReadyH.cons (o := ?_) ?_ (fun K hK => ?_) AllReadyH.nil
          rotate_left 1
          · (simp only [List.getElem?_toArray, List.getElem?_cons_succ, List.getElem?_cons_zero]; first | done | rfl)
          go_simp
          go_at_call 46
          refine (wvalue_any b _ k1 n1 x1' t1 y1 _ HWR.out hnm (by simp [encText_len]; omega)).mono ?_
          rintro e D4 ⟨rfl, hwr, hwt⟩
          first | (refine hK.out _ _ ?_ (fun hq4 => ?_)) | (go_wp2_with fail; refine hK.out _ _ ?_ (fun hq4 => ?_))
          · exact HSALL.out _ (HBB.out.trans hwt)
          clear hK K
          (try simp only [Act.put, List.setIfInBounds_toArray, List.set_cons_zero, List.set_cons_succ])
          clear hq3
          replace Vp := Lib.hid (Vp.out.wrote hwt)
          replace HBB := Lib.hid (HBB.out.trans hwt)
          replace HWR := Lib.hid hwr
          clear hwr hwt
          refine wpAnyH_done (by kernel_rfl) ?_ _
          go_wp2_with fail
          exact ⟨⟨k + 1, by omega, by go_num, by rw [HSU.out, ← List.append_assoc, HS.out]; unfold encCond; simpa only [List.append_assoc, List.map_cons, List.map_nil] using HWR.out, HWT1.out.trans HBB.out⟩, by simp [RowKit.intOf]; go_num⟩
        · skip
          go_simp
          refine hK.out _ _ ?_ (fun hq1 => ?_)
          · exact HSALL.out _ (HBB.out.trans (wrote_below HWR.out.lt (balloc _ _)))
          clear hK K
          (try simp only [Act.put, List.setIfInBounds_toArray, List.set_cons_zero, List.set_cons_succ])
          clear hq0
          generalize hD : World.alloc D0 _ = D5 at hq1 ⊢
          have hb : Below D0.heap.size D0 D5 := by rw [← hD]; exact balloc _ _
          have Vp := Lib.hid (va_one op 3 HWR.out); rw [hD] at Vp
          clear hD
          have ht := wrote_below HWR.out.lt hb
          replace HBB := Lib.hid (HBB.out.trans ht)
          replace HWR := Lib.hid (HWR.out.below hb)
          clear hb ht
          generalize D0.heap.size = p at *
          refine wpAnyH_ready (rs := [3]) (by kernel_rfl) (by simp) ?_
          refine AllReadyH.cons (o := ?_) ?_ (fun K hK => ?_) AllReadyH.nil
          rotate_left 1
          · (simp only [List.getElem?_toArray, List.getElem?_cons_succ, List.getElem?_cons_zero]; first | done | rfl)
          go_simp
          go_at_call 24
          refine (wtext_any b _ nm _ HWR.out (by omega)).mono ?_
          rintro e D6 ⟨rfl, hwr, hwt⟩
          first | (refine hK.out _ _ ?_ (fun hq2 => ?_)) | (go_wp2_with fail; refine hK.out _ _ ?_ (fun hq2 => ?_))
          · exact HSALL.out _ (HBB.out.trans hwt)
          clear hK K
          (try simp only [Act.put, List.setIfInBounds_toArray, List.set_cons_zero, List.set_cons_succ])
          clear hq1
          replace Vp := Lib.hid (Vp.out.wrote hwt)
          replace HBB := Lib.hid (HBB.out.trans hwt)
          replace HWR := Lib.hid hwr
          clear hwr hwt
          refine wpAnyH_ready (rs := [7]) (by kernel_rfl) (by simp) ?_
          refine AllReadyH.cons (o := ?_) ?_ (fun K hK => ?_) AllReadyH.nil
          rotate_left 1
          · (simp only [List.getElem?_toArray, List.getElem?_cons_succ, List.getElem?_cons_zero]; first | done | rfl)
          go_simp
          go_at_call 22
          refine (wbyte_va HWR.out Vp.out (by simp [encText_len]; omega)).mono ?_
          rintro e D7 ⟨rfl, hwr, hwt⟩
          first | (refine hK.out _ _ ?_ (fun hq3 => ?_)) | (go_wp2_with fail; refine hK.out _ _ ?_ (fun hq3 => ?_))
          · exact HSALL.out _ (HBB.out.trans hwt)
          clear hK K
          (try simp only [Act.put, List.setIfInBounds_toArray, List.set_cons_zero, List.set_cons_succ])
          clear hq2
          replace Vp := Lib.hid (Vp.out.wrote hwt)
          replace HBB := Lib.hid (HBB.out.trans hwt)
          replace HWR := Lib.hid hwr
          clear hwr hwt
          refine wpAnyH_ready (rs := [10]) (by kernel_rfl) (by simp) ?_
          refine AllReadyH.cons (o := ?_) ?_ (fun K hK => ?_) AllReadyH.nil
          rotate_left 1
          · (simp only [List.getElem?_toArray, List.getElem?_cons_succ, List.getElem?_cons_zero]; first | done | rfl)
          go_simp
          go_at_call 46
          refine (wvalue_any b _ k1 n1 x1' t1 y1 _ HWR.out hnm (by simp [encText_len]; omega)).mono ?_
          rintro e D8 ⟨rfl, hwr, hwt⟩
          first | (refine hK.out _ _ ?_ (fun hq4 => ?_)) | (go_wp2_with fail; refine hK.out _ _ ?_ (fun hq4 => ?_))
          · exact HSALL.out _ (HBB.out.trans hwt)
          clear hK K
          (try simp only [Act.put, List.setIfInBounds_toArray, List.set_cons_zero, List.set_cons_succ])
          clear hq3
          replace Vp := Lib.hid (Vp.out.wrote hwt)
          replace HBB := Lib.hid (HBB.out.trans hwt)
          replace HWR := Lib.hid hwr
          clear hwr hwt
          refine wpAnyH_done (by kernel_rfl) ?_ _
          go_wp2_with fail
          exact ⟨⟨k + 1, by omega, by go_num, by rw [HSU.out, ← List.append_assoc, HS.out]; unfold encCond; simpa only [List.append_assoc, List.map_cons, List.map_nil] using HWR.out, HWT1.out.trans HBB.out⟩, by simp [RowKit.intOf]; go_num⟩
      · have i1 : ¬ (k : Int) < (l.length : Int) := by omega
        obtain rfl : k = l.length := by omega
        rw [List.take_length] at hwr
        go_wp2_with fail
        go_ret
        refine ⟨rfl, ?_, hwt⟩
        unfold encFilter
        simpa only [List.append_assoc] using hwr
end Go.Proofs.YtpbdgbejcdncgaaGreatDoor.Wire
end

section
/- THE WALKS OF filter.Match, filter.Right, filter.Covers. -/
namespace Go.Proofs.YtpbdgbejcdncgaaGreatDoor.Val
open Go.RowKit Flt
attribute [local go_sem] run_store_flt
set_option maxHeartbeats 2000000 in
theorem fright_any (sf : List UInt8) (a0 : Option Addr) (cap : Nat) (l : List C) (w : World) (hl : Conds w a0 l) (hlm : l.length ≤ 1000000)
    (hsf : sf.length ≤ 140737488351232) (hok : ∀ c ∈ l, c.name.length ≤ 140737488351232 ∧ c.val.text.length ≤ 140737488351232) :
    Calls Tryz.prog 6 #[ev sf a0 l.length cap] w fun e w' => e = .returned (.bool (fRight sf l)) ∧ Below w.heap.size w w' := by
  have hrt (W : World) := Sc.right_l sf W hsf
  have hr : fRight sf l = (l.all cRight && (Sc.rightB sf && decide (l.length ≤ 6))) := rfl
  have HL := Lib.hid hl; have HRT := Lib.hid hrt; have HR := Lib.hid hr; have HOK := Lib.hid hok
  clear hl hrt hr hsf hok
  generalize Sc.rightB sf = U at *
  generalize fRight sf l = R at *
  go_enter Tryz.func6, Tryz.ntmps6
  go_wp2_with fail
  have hx1 := box2_new w sf a0 l.length cap 24
  have hbw := balloc w (.cells #[.string ⟨sf.toArray⟩, .slice a0 l.length cap] 24)
  have HX1 := Lib.hid hx1; have HBW := Lib.hid hbw
  clear hx1 hbw
  generalize w.alloc _ = W0 at *
  go_loopw [8] (fun vi wr => ∃ k : Nat, k ≤ l.length ∧ vi = .int .i64 k ∧ Hid ((l.take k).all cRight = true) ∧ Below W0.heap.size W0 wr) (fun vi _ => l.length - (intOf vi).toNat)
  case atStart => exact ⟨0, Nat.zero_le _, rfl, Lib.hid rfl, Below.refl _ _⟩
  case round =>
    obtain ⟨k, hk, rfl, HP, hbr⟩ := hrel
    have hbz := btrans HBW.out hbr
    have hy1 := HX1.out.below hbr
    have hs1 := hy1.lt
    obtain ⟨f0, f1⟩ := hy1
    have HBZ := Lib.hid hbz; have HBR := Lib.hid hbr
    clear hbz hbr
    by_cases hlt : k < l.length
    · have i1 : (k : Int) < (l.length : Int) := by omega
      have i0 : (0 : Int) ≤ (k : Int) := by omega
      have hts := all_take_succ' cRight l k hlt
      have hno := all_miss cRight l k hlt
      rw [HP.out, Bool.true_and] at hts
      have hx := HOK.out _ (List.getElem_mem hlt)
      obtain ⟨a, rfl, v0, v1, v2, v3, v4, v5, v6⟩ := (HL.out.below HBZ.out) k hlt
      have hmc (W : World) : Calls Tryz.prog 15 #[cc l[k]] W fun e w' => e = .returned (.bool (cRight l[k])) ∧ Below W.heap.size W w' := cright_any _ _ _ _ _ _ _ W hx.1 hx.2
      clear hx
      generalize cRight l[k] = M at *
      have HTS := Lib.hid hts; have HNO := Lib.hid hno; have HMC := Lib.hid hmc
      clear hts hno hmc HP
      cases M
      · go_wp2_with (go_at_call 15; refine (HMC.out _).mono ?_; rintro e w5 ⟨rfl, hb5⟩)
        go_ret
        exact ⟨ret_bool (by rw [HR.out, HNO.out (by trivial)]; rfl), btrans (btrans HBZ.out (balloc _ _)) hb5⟩
      · go_wp2_with (go_at_call 15; refine (HMC.out _).mono ?_; rintro e w5 ⟨rfl, hb5⟩)
        exact ⟨⟨k + 1, by omega, by go_num, Lib.hid HTS.out, btrans (btrans HBR.out (balloc _ _)) hb5⟩, by simp [intOf]; go_num⟩
    · obtain rfl : k = l.length := by omega
      have hP := HP.out
      rw [List.take_length] at hP
      have HQ := Lib.hid hP; clear hP
      cases U
      · go_wp2_with (go_at_call 13; refine (HRT.out _).mono ?_; rintro e w5 ⟨rfl, ⟨nd, rfl⟩⟩)
        go_ret
        exact ⟨ret_bool (by rw [HR.out, HQ.out]; rfl), bdrewN HBZ.out _⟩
      · go_wp2_with (go_at_call 13; refine (HRT.out _).mono ?_; rintro e w5 ⟨rfl, ⟨nd, rfl⟩⟩)
        go_ret
        exact ⟨ret_bool (by rw [HR.out, HQ.out, Bool.true_and, Bool.true_and, Bool.eq_iff_iff]; simp; omega), bdrewN HBZ.out _⟩
end Go.Proofs.YtpbdgbejcdncgaaGreatDoor.Val
end

section
/- PLAIN LAW OF A POLICY'S LOG: what may come next, what counts by a version. No program in sight. -/
namespace Go.Proofs.YtpbdgbejcdncgaaGreatDoor.Pol
open Go.Proofs.YtpbdgbejcdncgaaGreatDoor.Val
/-- what of a rule plays a part in a log -/
structure K where
  kind : Int
  tenant : Int
  who : List UInt8
  pl : Int
instance : Inhabited K := ⟨⟨0, 0, [], 0⟩⟩
def peopleN (L : List K) : Nat := L.countP (fun k => k.kind == 0)
/-- two logs: of all tenants, of one -/
structure Twin (A O : List K) : Prop where
  own : O = A.filter (fun k => k.tenant == 0)
  none : ∀ k ∈ A, k.kind ≠ 4
  room : A.length ≤ 40
  people : peopleN A ≤ 12
theorem Twin.le {A O : List K} (h : Twin A O) : O.length ≤ A.length ∧ peopleN O ≤ peopleN A := by
  rw [h.own]
  exact ⟨List.length_filter_le _ _, by unfold peopleN; exact List.Sublist.countP_le List.filter_sublist⟩
end Go.Proofs.YtpbdgbejcdncgaaGreatDoor.Pol
end

section
/- RULES IN MEMORY: eight cells each; a log: a box that holds a row of its own. -/
namespace Go.Proofs.YtpbdgbejcdncgaaGreatDoor.Pol
open Go.RowKit Flt Go.Proofs.YtpbdgbejcdncgaaGreatDoor.Val
/-- a rule: what plays a part, and the rest -/
structure R where
  k : K
  br : Int
  sc : List UInt8
  c0 : Option Addr
  cn : Nat
  cc : Nat
  nm : List UInt8
instance : Inhabited R := ⟨⟨default, 0, [], none, 0, 0, []⟩⟩
abbrev rul (kd tn : Int) (who : List UInt8) (br : Int) (sc : List UInt8) (c0 : Option Addr) (cn cc : Nat) (nm : List UInt8) (pl : Int) : Value :=
  .agg #[.int .i64 kd, .int .i64 tn, .string ⟨who.toArray⟩, .int .i64 br, .string ⟨sc.toArray⟩, .slice c0 cn cc, .string ⟨nm.toArray⟩, .int .i64 pl]
abbrev rv (r : R) : Value := rul r.k.kind r.k.tenant r.k.who r.br r.sc r.c0 r.cn r.cc r.nm r.k.pl
def RAt (w : World) (p : Addr) (r : R) : Prop :=
  w.cell? p = some (.int .i64 r.k.kind) ∧ w.cell? ⟨p.block, p.off + 1, none⟩ = some (.int .i64 r.k.tenant) ∧ w.cell? ⟨p.block, p.off + 2, none⟩ = some (.string ⟨r.k.who.toArray⟩) ∧ w.cell? ⟨p.block, p.off + 3, none⟩ = some (.int .i64 r.br) ∧ w.cell? ⟨p.block, p.off + 4, none⟩ = some (.string ⟨r.sc.toArray⟩) ∧ w.cell? ⟨p.block, p.off + 5, none⟩ = some (.slice r.c0 r.cn r.cc) ∧ w.cell? ⟨p.block, p.off + 6, none⟩ = some (.string ⟨r.nm.toArray⟩) ∧ w.cell? ⟨p.block, p.off + 7, none⟩ = some (.int .i64 r.k.pl)
theorem RAt.below {w w2 : World} {p : Addr} {r : R} (h : RAt w p r) (hb : Below w.heap.size w w2) : RAt w2 p r := by
  obtain ⟨h0, h1, h2, h3, h4, h5, h6, h7⟩ := h
  have e : ∀ {q : Addr} {v : Value}, w.cell? q = some v → w2.cell? q = some v := fun h => (hb.cell (World.block_lt_of_cell? _ _ h)).trans h
  exact ⟨e h0, e h1, e h2, e h3, e h4, e h5, e h6, e h7⟩
def Rules (w : World) (a0 : Option Addr) (l : List R) : Prop := ∀ i (h : i < l.length), ∃ a, a0 = some a ∧ RAt w (a.add (i * 8)) l[i]
theorem Rules.below {w w2 : World} {a0 : Option Addr} {l : List R} (h : Rules w a0 l) (hb : Below w.heap.size w w2) : Rules w2 a0 l := fun i hi => by
  obtain ⟨a, e, h1⟩ := h i hi
  exact ⟨a, e, h1.below hb⟩
/-- a log at a box, as it is read -/
def Log (w : World) (b : Nat) (a0 : Option Addr) (cap : Nat) (l : List R) : Prop := w.cell? ⟨b, 0, none⟩ = some (.slice a0 l.length cap) ∧ Rules w a0 l
theorem Log.below {w w2 : World} {b : Nat} {a0 : Option Addr} {cap : Nat} {l : List R} (h : Log w b a0 cap l) (hb : Below w.heap.size w w2) : Log w2 b a0 cap l :=
  ⟨(hb.cell (World.block_lt_of_cell? _ _ h.1)).trans h.1, h.2.below hb⟩
theorem Log.lt {w : World} {b : Nat} {a0 : Option Addr} {cap : Nat} {l : List R} (h : Log w b a0 cap l) : b < w.heap.size := World.block_lt_of_cell? _ _ h.1
end Go.Proofs.YtpbdgbejcdncgaaGreatDoor.Pol
end

section
/- A WRITER OF BYTES: an event, a rule; the bytes of rules, events, messages. -/
namespace Go.Proofs.YtpbdgbejcdncgaaGreatDoor.Wire
open Go.RowKit Flt Go.Proofs.YtpbdgbejcdncgaaGreatDoor.Val Go.Lib
attribute [local go_sem] run_store_flt
def encAttr (a : A) : List UInt8 := encText a.name ++ encVal a.val.kind a.val.int a.val.num a.val.text a.val.yes
def encAttrs (l : List A) : List UInt8 := l.flatMap encAttr
def encEvent (sc : List UInt8) (l : List A) : List UInt8 := encText sc ++ [byteOf l.length] ++ encAttrs l
theorem encAttrs_succ (l : List A) (k : Nat) (h : k < l.length) : encAttrs (l.take (k + 1)) = encAttrs (l.take k) ++ encAttr l[k] := by
  unfold encAttrs
  rw [List.take_add_one, List.getElem?_eq_getElem h, List.flatMap_append]
  simp
theorem encAttrs_le (l : List A) (k : Nat) : (encAttrs (l.take k)).length ≤ (encAttrs l).length := by
  have : encAttrs l = encAttrs (l.take k) ++ encAttrs (l.drop k) := by
    unfold encAttrs
    rw [← List.flatMap_append, List.take_append_drop]
  rw [this, List.length_append]; omega
theorem aat_new (w : World) (c : A) (e : TypeId) : AAt (w.alloc (.cells #[.string ⟨c.name.toArray⟩, .int .i64 c.val.kind, .int .i64 c.val.int, .float .f64 c.val.num, .string ⟨c.val.text.toArray⟩, .bool c.val.yes] e)) ⟨w.heap.size, 0, none⟩ c := by
  have hc : ∀ o, (w.alloc (.cells #[.string ⟨c.name.toArray⟩, .int .i64 c.val.kind, .int .i64 c.val.int, .float .f64 c.val.num, .string ⟨c.val.text.toArray⟩, .bool c.val.yes] e)).cell? ⟨w.heap.size, o, none⟩ = #[.string ⟨c.name.toArray⟩, .int .i64 c.val.kind, .int .i64 c.val.int, .float .f64 c.val.num, .string ⟨c.val.text.toArray⟩, .bool c.val.yes][o]? := fun o => World.cell?_alloc_at _ _ _ _ rfl
  exact ⟨hc 0, hc 1, hc 2, hc 3, hc 4, hc 5⟩
set_option maxRecDepth 20000 in
set_option maxHeartbeats 4000000 in
theorem wevent_any (b : Nat) (s sf : List UInt8) (a0 : Option Addr) (cap : Nat) (l : List A) (w w0 : World) (h : Wr w b s) (hcl : Attrs w0 a0 l) (hb0 : Below w0.heap.size w0 w) (hle : w0.heap.size ≤ b) (hnum : ∀ c ∈ l, c.val.num < 18446744073709551616) (hl : s.length + (encEvent sf l).length ≤ 1000000) (hlm : l.length ≤ 1000000) :
    Calls Tryz.prog 26 #[.pointer (some ⟨b, 0, none⟩), ev sf a0 l.length cap] w fun e w' => e = .returned (.pointer (some ⟨b, 0, none⟩)) ∧ Wr w' b (s ++ encEvent sf l) ∧ Wrote b w w' := by
  have hlen : s.length + sf.length + 2 + (encAttrs l).length ≤ 1000000 := by
    unfold encEvent at hl
    simp only [List.length_append, encText_len, List.length_singleton] at hl
    omega
  clear hl
  have hcn : ∀ W, Wrote b w W → Attrs W a0 l := fun W hb => hcl.below (hb0.trans (hb.below h hle))
  have HWR := Lib.hid h; have HH := Lib.hid h
  have HCN := Lib.hid hcn; have HNUM := Lib.hid hnum
  clear h hcl hb0 hnum hle hcn
  go_enter Tryz.func26, Tryz.ntmps26
  go_upto_region 1 with fail
  replace HWR := Lib.hid (HWR.out.below (balloc w (.cells #[.string ⟨sf.toArray⟩, .slice a0 l.length cap] 33)))
  have hfr := HH.out.free_new (balloc w (.cells #[.string ⟨sf.toArray⟩, .slice a0 l.length cap] 33)) (Nat.le_refl _) (by simp)
  have hx0 := box2_new w sf a0 l.length cap 33
  have hwt0 := wrote_below HH.out.lt (balloc w (.cells #[.string ⟨sf.toArray⟩, .slice a0 l.length cap] 33))
  generalize w.alloc _ = W0 at *
  have hsall : ∀ W, Wrote b W0 W → (fun w' => w'.cell? ⟨w.heap.size, 0, none⟩ = some (.string ⟨sf.toArray⟩) ∧ w'.cell? ⟨w.heap.size, 1, none⟩ = some (.slice a0 l.length cap)) W := fun W hb => ⟨(hb.cell hfr 0).trans hx0.1, (hb.cell hfr 1).trans hx0.2⟩
  have HSALL := Lib.hid hsall; have HWT0 := Lib.hid hwt0; have HFR := Lib.hid hfr
  clear hsall hwt0 hfr hx0
  go_cut [15] (fun va wx => Hid (Wr wx b (s ++ encText sf ++ [byteOf l.length])) ∧ Hid (Wrote b W0 wx))
  case first =>
    clear HCN HNUM HH
    refine wp_region_held_drew (S := (fun w' => w'.cell? ⟨w.heap.size, 0, none⟩ = some (.string ⟨sf.toArray⟩) ∧ w'.cell? ⟨w.heap.size, 1, none⟩ = some (.slice a0 l.length cap))) (by kernel_rfl) ?_ (fun hq0 => ?_)
    · exact HSALL.out _ (wrote_drew b W0)
    have HBB : Hid (Wrote b W0 W0.drew) := Lib.hid (wrote_drew b W0)
    replace HWR := Lib.hid (wr_drew HWR.out)
    generalize W0.drew = D0 at *
    (refine wpAnyH_take (i := 0) (oi := ?_) (v := ?_) ?_ (by kernel_rfl) (by kernel_rfl) (by kernel_rfl) ?_ (Or.inl ⟨?_, ?_⟩) (by assumption) ?_; rotate_left 2; (· (simp only [List.getElem?_toArray, List.getElem?_cons_zero]; first | done | rfl)); (· exact (fun _ _ _ h => h)); (· rfl); (· (intro w hSw; (try dsimp only at hSw); go_simp; (try with_reducible rfl))))
    (try simp only [Act.put, List.setIfInBounds_toArray, List.set_cons_zero, List.set_cons_succ])
    (refine wpAnyH_take (i := 1) (oi := ?_) (v := ?_) ?_ (by kernel_rfl) (by kernel_rfl) (by kernel_rfl) ?_ (Or.inl ⟨?_, ?_⟩) (by assumption) ?_; rotate_left 2; (· (simp only [List.getElem?_toArray, List.getElem?_cons_succ, List.getElem?_cons_zero]; first | done | rfl)); (· exact (fun _ _ _ h => h)); (· rfl); (· (intro w hSw; (try dsimp only at hSw); go_simp; (try with_reducible rfl))))
    (try simp only [Act.put, List.setIfInBounds_toArray, List.set_cons_zero, List.set_cons_succ])
    (refine wpAnyH_take (i := 2) (oi := ?_) (v := ?_) ?_ (by kernel_rfl) (by kernel_rfl) (by kernel_rfl) ?_ (Or.inl ⟨?_, ?_⟩) (by assumption) ?_; rotate_left 2; (· (simp only [List.getElem?_toArray, List.getElem?_cons_succ, List.getElem?_cons_zero]; first | done | rfl)); (· exact (fun _ _ _ h => h)); (· rfl); (· (intro w hSw; (try dsimp only at hSw); go_simp; (try with_reducible rfl))))
    (try simp only [Act.put, List.setIfInBounds_toArray, List.set_cons_zero, List.set_cons_succ])
    (refine wpAnyH_take (i := 4) (oi := ?_) (v := ?_) ?_ (by kernel_rfl) (by kernel_rfl) (by kernel_rfl) ?_ (Or.inl ⟨?_, ?_⟩) (by assumption) ?_; rotate_left 2; (· (simp only [List.getElem?_toArray, List.getElem?_cons_succ, List.getElem?_cons_zero]; first | done | rfl)); (· exact (fun _ _ _ h => h)); (· rfl); (· (intro w hSw; (try dsimp only at hSw); go_simp; (try with_reducible rfl))))
    (try simp only [Act.put, List.setIfInBounds_toArray, List.set_cons_zero, List.set_cons_succ])
    (refine wpAnyH_take (i := 5) (oi := ?_) (v := ?_) ?_ (by kernel_rfl) (by kernel_rfl) (by kernel_rfl) ?_ (Or.inl ⟨?_, ?_⟩) (by assumption) ?_; rotate_left 2; (· (simp only [List.getElem?_toArray, List.getElem?_cons_succ, List.getElem?_cons_zero]; first | done | rfl)); (· exact (fun _ _ _ h => h)); (· rfl); (· (intro w hSw; (try dsimp only at hSw); go_simp; (try with_reducible rfl))))
    (try simp only [Act.put, List.setIfInBounds_toArray, List.set_cons_zero, List.set_cons_succ])
    (refine wpAnyH_take (i := 6) (oi := ?_) (v := ?_) ?_ (by kernel_rfl) (by kernel_rfl) (by kernel_rfl) ?_ (Or.inl ⟨?_, ?_⟩) (by assumption) ?_; rotate_left 2; (· (simp only [List.getElem?_toArray, List.getElem?_cons_succ, List.getElem?_cons_zero]; first | done | rfl)); (· exact (fun _ _ _ h => h)); (· rfl); (· (intro w hSw; (try dsimp only at hSw); go_simp; (try with_reducible rfl))))
    (try simp only [Act.put, List.setIfInBounds_toArray, List.set_cons_zero, List.set_cons_succ])
    refine wpAnyH_ready (rs := [3, 7]) (by kernel_rfl) (by simp) ?_
    refine AllReadyH.cons (o := ?_) ?_ (fun K hK => ?_) ?_
    rotate_left 1
    · (simp only [List.getElem?_toArray, List.getElem?_cons_succ, List.getElem?_cons_zero]; first | done | rfl)
    rotate_left 1
    refine AllReadyH.cons (o := ?_) ?_ (fun K hK => ?_) AllReadyH.nil
    rotate_left 1
    · (simp only [List.getElem?_toArray, List.getElem?_cons_succ, List.getElem?_cons_zero]; first | done | rfl)
    rotate_left 1
    · skip
      go_simp
      go_at_call 24
      refine (wtext_any b _ sf _ HWR.out (by omega)).mono ?_
      rintro e D1 ⟨rfl, hwr, hwt⟩
      first | (refine hK.out _ _ ?_ (fun hq1 => ?_)) | (go_wp2_with fail; refine hK.out _ _ ?_ (fun hq1 => ?_))
      · exact HSALL.out _ (HBB.out.trans hwt)
      clear hK K
      (try simp only [Act.put, List.setIfInBounds_toArray, List.set_cons_zero, List.set_cons_succ])
      clear hq0
      replace HBB := Lib.hid (HBB.out.trans hwt)
      replace HWR := Lib.hid hwr
      clear hwr hwt
      refine wpAnyH_ready (rs := [7]) (by kernel_rfl) (by simp) ?_
      refine AllReadyH.cons (o := ?_) ?_ (fun K hK => ?_) AllReadyH.nil
      rotate_left 1
      · (simp only [List.getElem?_toArray, List.getElem?_cons_succ, List.getElem?_cons_zero]; first | done | rfl)
      go_simp
      refine hK.out _ _ ?_ (fun hq2 => ?_)
      · exact HSALL.out _ (HBB.out.trans (wrote_below HWR.out.lt (balloc _ _)))
      clear hK K
      (try simp only [Act.put, List.setIfInBounds_toArray, List.set_cons_zero, List.set_cons_succ])
      clear hq1
      generalize hD : World.alloc D1 _ = D2 at hq2 ⊢
      have hb : Below D1.heap.size D1 D2 := by rw [← hD]; exact balloc _ _
      have Vp := Lib.hid (va_one (l.length : Int) 3 HWR.out); rw [hD] at Vp
      clear hD
      have ht := wrote_below HWR.out.lt hb
      replace HBB := Lib.hid (HBB.out.trans ht)
      replace HWR := Lib.hid (HWR.out.below hb)
      clear hb ht
      generalize D1.heap.size = p at *
      refine wpAnyH_ready (rs := [8]) (by kernel_rfl) (by simp) ?_
      refine AllReadyH.cons (o := ?_) ?_ (fun K hK => ?_) AllReadyH.nil
      rotate_left 1
      · (simp only [List.getElem?_toArray, List.getElem?_cons_succ, List.getElem?_cons_zero]; first | done | rfl)
      go_simp
      go_at_call 22
      refine (wbyte_va HWR.out Vp.out (by simp [encText_len]; omega)).mono ?_
      rintro e D3 ⟨rfl, hwr, hwt⟩
      first | (refine hK.out _ _ ?_ (fun hq3 => ?_)) | (go_wp2_with fail; refine hK.out _ _ ?_ (fun hq3 => ?_))
      · exact HSALL.out _ (HBB.out.trans hwt)
      clear hK K
      (try simp only [Act.put, List.setIfInBounds_toArray, List.set_cons_zero, List.set_cons_succ])
      clear hq2
      replace Vp := Lib.hid (Vp.out.wrote hwt)
      replace HBB := Lib.hid (HBB.out.trans hwt)
      replace HWR := Lib.hid hwr
      clear hwr hwt
      refine wpAnyH_done (by kernel_rfl) ?_ _
      go_wp2_with fail
      go_meet
      exact ⟨HWR, HBB⟩
    · skip
      go_simp
      refine hK.out _ _ ?_ (fun hq1 => ?_)
      · exact HSALL.out _ (HBB.out.trans (wrote_below HWR.out.lt (balloc _ _)))
      clear hK K
      (try simp only [Act.put, List.setIfInBounds_toArray, List.set_cons_zero, List.set_cons_succ])
      clear hq0
      generalize hD : World.alloc D0 _ = D4 at hq1 ⊢
      have hb : Below D0.heap.size D0 D4 := by rw [← hD]; exact balloc _ _
      have Vp := Lib.hid (va_one (l.length : Int) 3 HWR.out); rw [hD] at Vp
      clear hD
      have ht := wrote_below HWR.out.lt hb
      replace HBB := Lib.hid (HBB.out.trans ht)
      replace HWR := Lib.hid (HWR.out.below hb)
      clear hb ht
      generalize D0.heap.size = p at *
      refine wpAnyH_ready (rs := [3]) (by kernel_rfl) (by simp) ?_
      refine AllReadyH.cons (o := ?_) ?_ (fun K hK => ?_) AllReadyH.nil
      rotate_left 1
      · (simp only [List.getElem?_toArray, List.getElem?_cons_succ, List.getElem?_cons_zero]; first | done | rfl)
      go_simp
      go_at_call 24
      refine (wtext_any b _ sf _ HWR.out (by omega)).mono ?_
      rintro e D5 ⟨rfl, hwr, hwt⟩
      first | (refine hK.out _ _ ?_ (fun hq2 => ?_)) | (go_wp2_with fail; refine hK.out _ _ ?_ (fun hq2 => ?_))
      · exact HSALL.out _ (HBB.out.trans hwt)
      clear hK K
      (try simp only [Act.put, List.setIfInBounds_toArray, List.set_cons_zero, List.set_cons_succ])
      clear hq1
      replace Vp := Lib.hid (Vp.out.wrote hwt)
      replace HBB := Lib.hid (HBB.out.trans hwt)
      replace HWR := Lib.hid hwr
      clear hwr hwt
      refine wpAnyH_ready (rs := [8]) (by kernel_rfl) (by simp) ?_
      refine AllReadyH.cons (o := ?_) ?_ (fun K hK => ?_) AllReadyH.nil
      rotate_left 1
      · (simp only [List.getElem?_toArray, List.getElem?_cons_succ, List.getElem?_cons_zero]; first | done | rfl)
      go_simp
      go_at_call 22
      refine (wbyte_va HWR.out Vp.out (by simp [encText_len]; omega)).mono ?_
      rintro e D6 ⟨rfl, hwr, hwt⟩
      first | (refine hK.out _ _ ?_ (fun hq3 => ?_)) | (go_wp2_with fail; refine hK.out _ _ ?_ (fun hq3 => ?_))
      · exact HSALL.out _ (HBB.out.trans hwt)
      clear hK K
      (try simp only [Act.put, List.setIfInBounds_toArray, List.set_cons_zero, List.set_cons_succ])
      clear hq2
      replace Vp := Lib.hid (Vp.out.wrote hwt)
      replace HBB := Lib.hid (HBB.out.trans hwt)
      replace HWR := Lib.hid hwr
      clear hwr hwt
      refine wpAnyH_done (by kernel_rfl) ?_ _
      go_wp2_with fail
      go_meet
      exact ⟨HWR, HBB⟩
  case rest =>
    obtain ⟨HW1, HT1⟩ := hcut
    obtain ⟨x0, x1⟩ := HSALL.out _ HT1.out
    have HT2 := Lib.hid (HWT0.out.trans HT1.out)
    clear HWR HSALL HFR
    go_wp2_with fail
    go_loopw [19] (fun vi wr => ∃ k : Nat, k ≤ l.length ∧ vi = .int .i64 k ∧ Wr wr b (s ++ encText sf ++ [byteOf l.length] ++ encAttrs (l.take k)) ∧ Wrote b w wr) (fun vi _ => l.length - (RowKit.intOf vi).toNat)
    case atStart => exact ⟨0, Nat.zero_le _, rfl, by simpa [encAttrs] using HW1.out, HT2.out⟩
    case round =>
      obtain ⟨k, hk, rfl, hwr, hwt⟩ := hrel
      by_cases hlt : k < l.length
      · have i1 : (k : Int) < (l.length : Int) := by omega
        have i0 : (0 : Int) ≤ (k : Int) := by omega
        obtain ⟨a, rfl, v0, v1, v2, v3, v4, v5⟩ := (HCN.out _ hwt) k hlt
        have hnm := HNUM.out _ (List.getElem_mem hlt)
        have hsu := encAttrs_succ l k hlt
        have hle1 := encAttrs_le l (k + 1)
        have hla : (s ++ encText sf ++ [byteOf l.length] ++ encAttrs (l.take k)).length = s.length + sf.length + 2 + (encAttrs (l.take k)).length := by simp [encText_len]; omega
        rw [hsu, List.length_append] at hle1
        generalize l[k] = c at *
        generalize hS : s ++ encText sf ++ [byteOf l.length] ++ encAttrs (l.take k) = S at *
        have HSU := Lib.hid hsu; have HS := Lib.hid hS; have HWT := Lib.hid hwt; have HWQ := Lib.hid hwr
        obtain ⟨nm, ⟨k1, n1, x1', t1, y1⟩⟩ := c
        dsimp only at hnm v0 v1 v2 v3 v4 v5
        have hlc : S.length + nm.length + 1 + (encVal k1 n1 x1' t1 y1).length ≤ 1000000 := by
          unfold encAttr at hle1
          simp only [List.length_append, encText_len] at hle1
          omega
        clear hsu hS hwt hwr hle1 hla
        go_upto_region 5 with fail
        have hcat := aat_new wr ⟨nm, ⟨k1, n1, x1', t1, y1⟩⟩ 89
        dsimp only at hcat
        have hal := balloc wr (.cells #[.string ⟨nm.toArray⟩, .int .i64 k1, .int .i64 n1, .float .f64 x1', .string ⟨t1.toArray⟩, .bool y1] 89)
        have hsz : wr.heap.size < (wr.alloc (.cells #[.string ⟨nm.toArray⟩, .int .i64 k1, .int .i64 n1, .float .f64 x1', .string ⟨t1.toArray⟩, .bool y1] 89)).heap.size := by simp
        generalize World.alloc wr _ = W1 at *
        have hfr := HWQ.out.free_new hal (Nat.le_refl _) hsz
        have hwt1 := wrote_below HWQ.out.lt hal
        have hsall : ∀ W, Wrote b W1 W → (fun w' => w'.cell? ⟨wr.heap.size, 0, none⟩ = some (.string ⟨nm.toArray⟩) ∧ w'.cell? ⟨wr.heap.size, 1, none⟩ = some (.int .i64 k1) ∧ w'.cell? ⟨wr.heap.size, 2, none⟩ = some (.int .i64 n1) ∧ w'.cell? ⟨wr.heap.size, 3, none⟩ = some (.float .f64 x1') ∧ w'.cell? ⟨wr.heap.size, 4, none⟩ = some (.string ⟨t1.toArray⟩) ∧ w'.cell? ⟨wr.heap.size, 5, none⟩ = some (.bool y1)) W := fun W hb => ⟨(hb.cell hfr 0).trans hcat.1, (hb.cell hfr 1).trans hcat.2.1, (hb.cell hfr 2).trans hcat.2.2.1, (hb.cell hfr 3).trans hcat.2.2.2.1, (hb.cell hfr 4).trans hcat.2.2.2.2.1, (hb.cell hfr 5).trans hcat.2.2.2.2.2⟩
        have HSALL := Lib.hid hsall; have HWT1 := Lib.hid (HWT.out.trans hwt1); have HWR := Lib.hid (HWQ.out.below hal)
        clear hsall hwt1 hfr hcat hal hsz v0 v1 v2 v3 v4 v5 HWQ HWT
        refine wp_region_held_drew (S := (fun w' => w'.cell? ⟨wr.heap.size, 0, none⟩ = some (.string ⟨nm.toArray⟩) ∧ w'.cell? ⟨wr.heap.size, 1, none⟩ = some (.int .i64 k1) ∧ w'.cell? ⟨wr.heap.size, 2, none⟩ = some (.int .i64 n1) ∧ w'.cell? ⟨wr.heap.size, 3, none⟩ = some (.float .f64 x1') ∧ w'.cell? ⟨wr.heap.size, 4, none⟩ = some (.string ⟨t1.toArray⟩) ∧ w'.cell? ⟨wr.heap.size, 5, none⟩ = some (.bool y1))) (by kernel_rfl) ?_ (fun hq0 => ?_)
        · exact HSALL.out _ (wrote_drew b W1)
        have HBB : Hid (Wrote b W1 W1.drew) := Lib.hid (wrote_drew b W1)
        replace HWR := Lib.hid (wr_drew HWR.out)
        generalize W1.drew = D0 at *
        (refine wpAnyH_take (i := 0) (oi := ?_) (v := ?_) ?_ (by kernel_rfl) (by kernel_rfl) (by kernel_rfl) ?_ (Or.inl ⟨?_, ?_⟩) (by assumption) ?_; rotate_left 2; (· (simp only [List.getElem?_toArray, List.getElem?_cons_zero]; first | done | rfl)); (· exact (fun _ _ _ h => h)); (· rfl); (· (intro w hSw; (try dsimp only at hSw); go_simp; (try with_reducible rfl))))
        (try simp only [Act.put, List.setIfInBounds_toArray, List.set_cons_zero, List.set_cons_succ])
        (refine wpAnyH_take (i := 1) (oi := ?_) (v := ?_) ?_ (by kernel_rfl) (by kernel_rfl) (by kernel_rfl) ?_ (Or.inl ⟨?_, ?_⟩) (by assumption) ?_; rotate_left 2; (· (simp only [List.getElem?_toArray, List.getElem?_cons_succ, List.getElem?_cons_zero]; first | done | rfl)); (· exact (fun _ _ _ h => h)); (· rfl); (· (intro w hSw; (try dsimp only at hSw); go_simp; (try with_reducible rfl))))
        (try simp only [Act.put, List.setIfInBounds_toArray, List.set_cons_zero, List.set_cons_succ])
        (refine wpAnyH_take (i := 2) (oi := ?_) (v := ?_) ?_ (by kernel_rfl) (by kernel_rfl) (by kernel_rfl) ?_ (Or.inl ⟨?_, ?_⟩) (by assumption) ?_; rotate_left 2; (· (simp only [List.getElem?_toArray, List.getElem?_cons_succ, List.getElem?_cons_zero]; first | done | rfl)); (· exact (fun _ _ _ h => h)); (· rfl); (· (intro w hSw; (try dsimp only at hSw); go_simp; (try with_reducible rfl))))
        (try simp only [Act.put, List.setIfInBounds_toArray, List.set_cons_zero, List.set_cons_succ])
        (refine wpAnyH_take (i := 4) (oi := ?_) (v := ?_) ?_ (by kernel_rfl) (by kernel_rfl) (by kernel_rfl) ?_ (Or.inl ⟨?_, ?_⟩) (by assumption) ?_; rotate_left 2; (· (simp only [List.getElem?_toArray, List.getElem?_cons_succ, List.getElem?_cons_zero]; first | done | rfl)); (· exact (fun _ _ _ h => h)); (· rfl); (· (intro w hSw; (try dsimp only at hSw); go_simp; (try with_reducible rfl))))
        (try simp only [Act.put, List.setIfInBounds_toArray, List.set_cons_zero, List.set_cons_succ])
        (refine wpAnyH_take (i := 5) (oi := ?_) (v := ?_) ?_ (by kernel_rfl) (by kernel_rfl) (by kernel_rfl) ?_ (Or.inl ⟨?_, ?_⟩) (by assumption) ?_; rotate_left 2; (· (simp only [List.getElem?_toArray, List.getElem?_cons_succ, List.getElem?_cons_zero]; first | done | rfl)); (· exact (fun _ _ _ h => h)); (· rfl); (· (intro w hSw; (try dsimp only at hSw); go_simp; (try with_reducible rfl))))
        (try simp only [Act.put, List.setIfInBounds_toArray, List.set_cons_zero, List.set_cons_succ])
        refine wpAnyH_ready (rs := [3]) (by kernel_rfl) (by simp) ?_
        refine AllReadyH.cons (o := ?_) ?_ (fun K hK => ?_) AllReadyH.nil
        rotate_left 1
        · (simp only [List.getElem?_toArray, List.getElem?_cons_succ, List.getElem?_cons_zero]; first | done | rfl)
        go_simp
        go_at_call 24
        refine (wtext_any b _ nm _ HWR.out (by omega)).mono ?_
        rintro e D1 ⟨rfl, hwr, hwt⟩
        first | (refine hK.out _ _ ?_ (fun hq1 => ?_)) | (go_wp2_with fail; refine hK.out _ _ ?_ (fun hq1 => ?_))
        · exact HSALL.out _ (HBB.out.trans hwt)
        clear hK K
        (try simp only [Act.put, List.setIfInBounds_toArray, List.set_cons_zero, List.set_cons_succ])
        clear hq0
        replace HBB := Lib.hid (HBB.out.trans hwt)
        replace HWR := Lib.hid hwr
        clear hwr hwt
        refine wpAnyH_ready (rs := [6]) (by kernel_rfl) (by simp) ?_
        refine AllReadyH.cons (o := ?_) ?_ (fun K hK => ?_) AllReadyH.nil
        rotate_left 1
        · (simp only [List.getElem?_toArray, List.getElem?_cons_succ, List.getElem?_cons_zero]; first | done | rfl)
        go_simp
        go_at_call 46
        refine (wvalue_any b _ k1 n1 x1' t1 y1 _ HWR.out hnm (by simp [encText_len]; omega)).mono ?_
        rintro e D2 ⟨rfl, hwr, hwt⟩
        first | (refine hK.out _ _ ?_ (fun hq2 => ?_)) | (go_wp2_with fail; refine hK.out _ _ ?_ (fun hq2 => ?_))
        · exact HSALL.out _ (HBB.out.trans hwt)
        clear hK K
        (try simp only [Act.put, List.setIfInBounds_toArray, List.set_cons_zero, List.set_cons_succ])
        clear hq1
        replace HBB := Lib.hid (HBB.out.trans hwt)
        replace HWR := Lib.hid hwr
        clear hwr hwt
        refine wpAnyH_done (by kernel_rfl) ?_ _
        go_wp2_with fail
        exact ⟨⟨k + 1, by omega, by go_num, by rw [HSU.out, ← List.append_assoc, HS.out]; unfold encAttr; simpa only [List.append_assoc] using HWR.out, HWT1.out.trans HBB.out⟩, by simp [RowKit.intOf]; go_num⟩
      · have i1 : ¬ (k : Int) < (l.length : Int) := by omega
        obtain rfl : k = l.length := by omega
        rw [List.take_length] at hwr
        go_wp2_with fail
        go_ret
        refine ⟨rfl, ?_, hwt⟩
        unfold encEvent
        simpa only [List.append_assoc] using hwr
end Go.Proofs.YtpbdgbejcdncgaaGreatDoor.Wire
end

section
/- A WRITER OF BYTES: a rule. -/
namespace Go.Proofs.YtpbdgbejcdncgaaGreatDoor.Wire
open Go.RowKit Flt Go.Proofs.YtpbdgbejcdncgaaGreatDoor.Val Go.Lib
attribute [local go_sem] run_store_flt
end Go.Proofs.YtpbdgbejcdncgaaGreatDoor.Wire
end

section
/- PLAIN: how many bytes a filter and an event may have. -/
namespace Go.Proofs.YtpbdgbejcdncgaaGreatDoor.Wire
open Go.Proofs.YtpbdgbejcdncgaaGreatDoor.Val
theorem parts_long (l : List UInt8) : l.length + 1 = ((Sc.parts l).map (fun p => p.length + 1)).sum := by
  induction l with
  | nil => simp [Sc.parts]
  | cons b r ih =>
    rw [Sc.parts]
    split
    · rw [List.map_cons, List.sum_cons, ← ih]; simp; omega
    · cases h : Sc.parts r with
      | nil => exact absurd h (Sc.parts_ne r)
      | cons p q =>
        rw [h] at ih
        simp only [List.map_cons, List.sum_cons, List.length_cons] at ih ⊢
        omega
theorem names_long : ∀ L : List (List UInt8), L.all Sc.nameB = true → (L.map (fun p => p.length + 1)).sum ≤ 13 * L.length
  | [], _ => by simp
  | p :: L, h => by
    rw [List.all_cons, Bool.and_eq_true] at h
    have := names_long L h.2
    have h1 : p.length ≤ 12 := by
      have := h.1
      unfold Sc.nameB at this
      simp only [Bool.and_eq_true, decide_eq_true_eq] at this
      exact this.2
    rw [List.map_cons, List.sum_cons, List.length_cons]
    omega
theorem scope_short {s : List UInt8} (h : Sc.rightB s = true) : s.length ≤ 1000 := by
  unfold Sc.rightB at h
  rw [Bool.or_eq_true, Bool.and_eq_true, decide_eq_true_eq] at h
  rcases h with h | ⟨h1, h2⟩
  · have : s = [] := by simpa using h
    subst this; simp
  · have e1 := parts_long s
    have e2 := names_long _ h1
    omega
theorem flat_len {α : Type} (f : α → List UInt8) (K : Nat) : ∀ (l : List α), (∀ x ∈ l, (f x).length ≤ K) → (l.flatMap f).length ≤ l.length * K
  | [], _ => by simp
  | x :: r, h => by
    have h1 := h x (by simp)
    have h2 := flat_len f K r (fun y hy => h y (by simp [hy]))
    rw [List.flatMap_cons, List.length_append, List.length_cons, Nat.add_mul]
    omega
theorem name_short {x : List UInt8} (h : Sc.nameB x = true) : x.length ≤ 12 := by
  unfold Sc.nameB at h
  simp only [Bool.and_eq_true, decide_eq_true_eq] at h
  exact h.2
theorem fright_len {sf : List UInt8} {l : List C} (h : fRight sf l = true) (hsf : sf.length ≤ 1000) : (encFilter sf l).length ≤ 2000 := by
  unfold fRight at h
  simp only [Bool.and_eq_true, decide_eq_true_eq, List.all_eq_true] at h
  obtain ⟨hc, -, hl⟩ := h
  have hk := flat_len encCond 63 l (fun c hcl => by
    have h1 := hc c hcl
    unfold cRight at h1
    simp only [Bool.and_eq_true, decide_eq_true_eq] at h1
    have h2 := name_short h1.1.1.1
    have h3 := h1.2
    unfold vRight at h3
    simp only [Bool.and_eq_true, decide_eq_true_eq] at h3
    have h4 := h3.2
    have h5 := encVal_len c.val.kind c.val.int c.val.num c.val.text c.val.yes
    unfold encCond
    simp only [List.length_append, encText_len, List.length_singleton]
    omega)
  unfold encFilter encConds
  simp only [List.length_append, encText_len, List.length_singleton]
  omega
end Go.Proofs.YtpbdgbejcdncgaaGreatDoor.Wire
end

section
/- PLAIN: filters' bytes are one-to-one on filters that filter.Norm answers. No program in sight. -/
namespace Go.Proofs.YtpbdgbejcdncgaaGreatDoor.Wire
open Go.Proofs.YtpbdgbejcdncgaaGreatDoor.Val Flt
theorem byteOf_inj {a b : Int} (ha : 0 ≤ a ∧ a < 256) (hb : 0 ≤ b ∧ b < 256) (h : byteOf a = byteOf b) : a = b := by
  have h0 := congrArg UInt8.toNat h
  have h1 := byteOf_val a; have h2 := byteOf_val b
  omega
theorem encText_cut {s t r u : List UInt8} (hs : s.length < 256) (ht : t.length < 256) (h : encText s ++ r = encText t ++ u) : s = t ∧ r = u := by
  unfold encText at h
  rw [List.cons_append, List.cons_append] at h
  injection h with h1 h2
  have hl := byteOf_inj (a := (s.length : Int)) (b := (t.length : Int)) (by omega) (by omega) h1
  exact List.append_inj h2 (by omega)
theorem long_step {x y q p : Nat} (e : p = q * 256) (h1 : x / p = y / p) (h2 : x / q % 256 = y / q % 256) : x / q = y / q := by
  rw [e, ← Nat.div_div_eq_div_mul, ← Nat.div_div_eq_div_mul] at h1
  omega
theorem longAt_to (x q : Nat) : (longAt x q).toNat = x / 2 ^ q % 256 := by
  unfold longAt
  rw [UInt8.toNat_ofNat']
  exact Nat.mod_eq_of_lt (show x / 2 ^ q % 256 < 256 from Nat.mod_lt _ (by decide))
theorem longAt_nat {x y q : Nat} (h : longAt x q = longAt y q) : x / 2 ^ q % 256 = y / 2 ^ q % 256 := by
  rw [← longAt_to, ← longAt_to, h]
theorem encLong_cut {x y : Nat} {r u : List UInt8} (hx : x < 18446744073709551616) (hy : y < 18446744073709551616) (h : encLong x ++ r = encLong y ++ u) : x = y ∧ r = u := by
  obtain ⟨h, hr⟩ := List.append_inj h (by rw [encLong_len, encLong_len])
  refine ⟨?_, hr⟩
  unfold encLong at h
  simp only [List.cons.injEq, and_true] at h
  obtain ⟨h7, h6, h5, h4, h3, h2, h1, h0⟩ := h
  have k7 := longAt_nat h7; have k6 := longAt_nat h6; have k5 := longAt_nat h5; have k4 := longAt_nat h4; have k3 := longAt_nat h3; have k2 := longAt_nat h2; have k1 := longAt_nat h1; have k0 := longAt_nat h0
  have a7 : x / 2 ^ 56 = y / 2 ^ 56 := by omega
  have a6 := long_step (p := 2 ^ 56) (q := 2 ^ 48) (by decide) a7 k6
  have a5 := long_step (p := 2 ^ 48) (q := 2 ^ 40) (by decide) a6 k5
  have a4 := long_step (p := 2 ^ 40) (q := 2 ^ 32) (by decide) a5 k4
  have a3 := long_step (p := 2 ^ 32) (q := 2 ^ 24) (by decide) a4 k3
  have a2 := long_step (p := 2 ^ 24) (q := 2 ^ 16) (by decide) a3 k2
  have a1 := long_step (p := 2 ^ 16) (q := 2 ^ 8) (by decide) a2 k1
  have a0 := long_step (p := 2 ^ 8) (q := 2 ^ 0) (by decide) a1 k0
  simpa using a0
theorem key_canon {x y : Nat} (hx : x < 18446744073709551616) (hy : y < 18446744073709551616) (h : Ord.key x = Ord.key y) : Ord.canon x = Ord.canon y := by
  cases nx : nan x <;> cases ny : nan y
  · have zx := Ord.zero_iff x; have zy := Ord.zero_iff y
    unfold Ord.key at h
    unfold Ord.canon
    rw [nx, ny] at h ⊢
    simp only [Bool.false_eq_true, if_false] at h ⊢
    have rx : rung x = x % 9223372036854775808 := rfl
    have ry : rung y = y % 9223372036854775808 := rfl
    have hm : Ord.most = 18446744073709551615 := rfl
    have ht : Ord.top = 9223372036854775808 := rfl
    rw [hm, ht] at h
    cases hzx : Ord.zero x <;> cases hzy : Ord.zero y
    all_goals
      rw [hzx] at h zx
      rw [hzy] at h zy
      first
        | (simp only [if_true]; done)
        | (simp only [Bool.false_eq_true, if_false, if_true] at h ⊢
           have zx' := zx.symm; have zy' := zy.symm
           simp only [decide_eq_true_eq, decide_eq_false_iff_not] at zx' zy'
           rw [rx] at zx'; rw [ry] at zy'
           (try split at h) <;> (try split at h) <;> first | rfl | omega)
  · have := Ord.key_ne_most hx nx; rw [Ord.key_nan ny] at h; omega
  · have := Ord.key_ne_most hy ny; rw [Ord.key_nan nx] at h; omega
  · unfold Ord.canon; rw [nx, ny]; rfl
/-- a value whose bytes tell it -/
structure VB (v : V) : Prop where
  k : v.kind = 0 ∨ v.kind = 1 ∨ v.kind = 2 ∨ v.kind = 3
  i : -9223372036854775808 ≤ v.int ∧ v.int ≤ 9223372036854775807
  n : v.num < 18446744073709551616
  t : v.text.length < 256
  c : canonV v = v
theorem u64of_inj {a b : Int} (ha : -9223372036854775808 ≤ a ∧ a ≤ 9223372036854775807) (hb : -9223372036854775808 ≤ b ∧ b ≤ 9223372036854775807) (h : u64of a = u64of b) : a = b := by
  unfold u64of at h
  omega
theorem encVal_cut {v u : V} {r s : List UInt8} (hv : VB v) (hu : VB u) (h : encVal v.kind v.int v.num v.text v.yes ++ r = encVal u.kind u.int u.num u.text u.yes ++ s) : v = u ∧ r = s := by
  unfold encVal at h
  rw [List.cons_append, List.cons_append] at h
  injection h with h1 h2
  have hk : v.kind = u.kind := byteOf_inj (by rcases hv.k with e | e | e | e <;> rw [e] <;> decide) (by rcases hu.k with e | e | e | e <;> rw [e] <;> decide) h1
  have cv := hv.c; have cu := hu.c
  obtain ⟨k, n, x, t, y⟩ := v
  obtain ⟨k', n', x', t', y'⟩ := u
  dsimp only at hk h2 ⊢
  subst hk
  rcases hv.k with e | e | e | e
  all_goals (dsimp only at e; subst e)
  · obtain ⟨e1, e2⟩ := encLong_cut (by unfold u64of; omega) (by unfold u64of; omega) h2
    have := u64of_inj hv.i hu.i e1
    dsimp only at this
    subst this
    exact ⟨by rw [← cv, ← cu]; rfl, e2⟩
  · obtain ⟨e1, e2⟩ := encLong_cut (Ord.key_lt _ hv.n) (Ord.key_lt _ hu.n) h2
    have := key_canon hv.n hu.n e1
    refine ⟨?_, e2⟩
    rw [← cv, ← cu]
    show (⟨1, 0, Ord.canon x, [], false⟩ : V) = ⟨1, 0, Ord.canon x', [], false⟩
    rw [this]
  · obtain ⟨e1, e2⟩ := encText_cut hv.t hu.t h2
    dsimp only at e1
    subst e1
    exact ⟨by rw [← cv, ← cu]; rfl, e2⟩
  · have h3 : (if y = true then (1 : UInt8) else 0) :: r = (if y' = true then (1 : UInt8) else 0) :: s := h2
    injection h3 with e1 e2
    have : y = y' := by cases y <;> cases y' <;> first | rfl | (exact absurd e1 (by decide))
    subst this
    exact ⟨by rw [← cv, ← cu]; rfl, e2⟩
/-- a condition whose bytes tell it -/
structure CB (c : C) : Prop where
  nm : c.name.length < 256
  op : 0 ≤ c.op ∧ c.op ≤ 7
  v : VB c.val
theorem encCond_cut {c d : C} {r s : List UInt8} (hc : CB c) (hd : CB d) (h : encCond c ++ r = encCond d ++ s) : c = d ∧ r = s := by
  unfold encCond at h
  simp only [List.append_assoc] at h
  obtain ⟨e1, h⟩ := encText_cut hc.nm hd.nm h
  rw [List.singleton_append, List.singleton_append] at h
  injection h with h1 h
  have e2 := byteOf_inj (by have := hc.op; omega) (by have := hd.op; omega) h1
  obtain ⟨e3, e4⟩ := encVal_cut hc.v hd.v h
  obtain ⟨nm, op, v⟩ := c
  obtain ⟨nm', op', v'⟩ := d
  dsimp only at e1 e2 e3
  subst e1; subst e2; subst e3
  exact ⟨rfl, e4⟩
theorem encConds_cut : ∀ (l m : List C) (r s : List UInt8), (∀ c ∈ l, CB c) → (∀ c ∈ m, CB c) → l.length = m.length → encConds l ++ r = encConds m ++ s → l = m ∧ r = s
  | [], [], r, s, _, _, _, h => ⟨rfl, by simpa [encConds] using h⟩
  | [], _ :: _, _, _, _, _, hl, _ => by simp at hl
  | _ :: _, [], _, _, _, _, hl, _ => by simp at hl
  | c :: l, d :: m, r, s, hc, hd, hl, h => by
    have e : ∀ (x : C) (k : List C) (q : List UInt8), encConds (x :: k) ++ q = encCond x ++ (encConds k ++ q) := fun x k q => by
      show List.flatMap encCond (x :: k) ++ q = _
      rw [List.flatMap_cons, List.append_assoc]; rfl
    rw [e, e] at h
    obtain ⟨e1, h⟩ := encCond_cut (hc c (by simp)) (hd d (by simp)) h
    obtain ⟨e2, e3⟩ := encConds_cut l m r s (fun x hx => hc x (by simp [hx])) (fun x hx => hd x (by simp [hx])) (by simpa using hl) h
    exact ⟨by rw [e1, e2], e3⟩
theorem encFilter_inj {sf sg : List UInt8} {l m : List C} (hs : sf.length < 256) (hg : sg.length < 256) (hl : l.length < 256) (hm : m.length < 256) (hc : ∀ c ∈ l, CB c) (hd : ∀ c ∈ m, CB c) (h : encFilter sf l = encFilter sg m) : sf = sg ∧ l = m := by
  unfold encFilter at h
  simp only [List.append_assoc] at h
  obtain ⟨e1, h⟩ := encText_cut hs hg h
  rw [List.singleton_append, List.singleton_append] at h
  injection h with h1 h
  have e2 := byteOf_inj (by omega) (by omega) h1
  obtain ⟨e3, _⟩ := encConds_cut l m [] [] hc hd (by omega) (by simpa using h)
  exact ⟨e1, e3⟩
theorem sc_less {s : List UInt8} (h : Sc.rightB s = true) : s.length < 256 := by
  unfold Sc.rightB at h
  rw [Bool.or_eq_true, Bool.and_eq_true, decide_eq_true_eq] at h
  rcases h with h | ⟨h1, h2⟩
  · have : s = [] := by simpa using h
    subst this; simp
  · have e1 := parts_long s
    have e2 := names_long _ h1
    omega
/-- so are the conditions that Norm answers -/
theorem norm_cb {L : List C} (h : LOk L) (hi : ∀ c ∈ L, -9223372036854775808 ≤ c.val.int ∧ c.val.int ≤ 9223372036854775807) : ∀ c ∈ normL L, CB c := fun c hc => by
  obtain ⟨d, hd, rfl⟩ := norm_of hc
  have hr := right_canon (h d hd).1
  have hn := num_canon (h d hd).2
  have hp := right_parts hr
  have hk := KOk.of_right (h d hd).1
  have ha := canonC_again hk
  have hdi := hi d hd
  have hr2 := hr
  unfold cRight at hr2
  simp only [Bool.and_eq_true, decide_eq_true_eq] at hr2
  have h2 := name_short hr2.1.1.1
  refine ⟨by omega, ⟨hp.2.1, hp.2.2.1⟩, ⟨four_ways hp.2.2.2.1 hp.2.2.2.2, ?_, hn, ?_, ?_⟩⟩
  · obtain ⟨nm, op, k, n, x, t, y⟩ := d
    unfold canonC canonV
    dsimp only at hdi ⊢
    repeat' split
    all_goals (dsimp only; omega)
  · have h3 := hr2.2
    unfold vRight at h3
    simp only [Bool.and_eq_true, decide_eq_true_eq] at h3
    omega
  · unfold canonC
    split
    · rfl
    · exact canonV_again hk
end Go.Proofs.YtpbdgbejcdncgaaGreatDoor.Wire
end

section
/- WHAT A READER TAKES: plain functions from bytes to values, and that what is taken are the value's bytes. No program in sight. -/
namespace Go.Proofs.YtpbdgbejcdncgaaGreatDoor.Wire
open Go.Proofs.YtpbdgbejcdncgaaGreatDoor.Val
def decText : List UInt8 → Option (List UInt8 × List UInt8)
  | [] => none
  | c :: t => if t.length < c.toNat then none else some (t.take c.toNat, t.drop c.toNat)
def longOf (s : List UInt8) : Nat := s.foldl (fun x c => x * 256 + c.toNat) 0
def decLong (s : List UInt8) : Option (Nat × List UInt8) := if s.length < 8 then none else some (longOf (s.take 8), s.drop 8)
def i64of (x : Nat) : Int := IntKind.i64.wrap (x : Int)
/-- many of a kind, one behind the other -/
def decMany {α : Type} (f : List UInt8 → Option (α × List UInt8)) : Nat → List UInt8 → Option (List α × List UInt8)
  | 0, s => some ([], s)
  | n + 1, s => match f s with
    | none => none
    | some (a, t) => match decMany f n t with
      | none => none
      | some (l, r) => some (a :: l, r)
theorem decText_enc {s t r : List UInt8} (h : decText s = some (t, r)) : s = encText t ++ r ∧ t.length < 256 := by
  cases s with
  | nil => cases h
  | cons c u =>
    have h' : (if u.length < c.toNat then none else some (u.take c.toNat, u.drop c.toNat)) = some (t, r) := h
    by_cases hlt : u.length < c.toNat
    · rw [if_pos hlt] at h'; cases h'
    · rw [if_neg hlt] at h'
      injection h' with h
      injection h with h1 h2
      subst h1; subst h2
      have hc := c.toNat_lt
      have hl : (u.take c.toNat).length = c.toNat := by rw [List.length_take]; omega
      refine ⟨?_, by rw [hl]; exact hc⟩
      unfold encText
      rw [hl, byteOf_nat, List.cons_append, List.take_append_drop]
theorem longOf_snoc (s : List UInt8) (c : UInt8) : longOf (s ++ [c]) = longOf s * 256 + c.toNat := by unfold longOf; rw [List.foldl_append]; rfl
theorem longAt_eq {x q : Nat} {c : UInt8} (h : x / 2 ^ q % 256 = c.toNat) : longAt x q = c := by
  unfold longAt
  rw [h]
  exact UInt8.ofNat_toNat
theorem long_enc8 (a b c d e f g h : UInt8) : encLong (longOf [a, b, c, d, e, f, g, h]) = [a, b, c, d, e, f, g, h] ∧ longOf [a, b, c, d, e, f, g, h] < 18446744073709551616 := by
  have ha := a.toNat_lt; have hb := b.toNat_lt; have hc := c.toNat_lt; have hd := d.toNat_lt
  have he := e.toNat_lt; have hf := f.toNat_lt; have hg := g.toNat_lt; have hh := h.toNat_lt
  have hx : longOf [a, b, c, d, e, f, g, h] = (((((((0 * 256 + a.toNat) * 256 + b.toNat) * 256 + c.toNat) * 256 + d.toNat) * 256 + e.toNat) * 256 + f.toNat) * 256 + g.toNat) * 256 + h.toNat := rfl
  generalize longOf [a, b, c, d, e, f, g, h] = x at *
  refine ⟨?_, by omega⟩
  unfold encLong
  rw [longAt_eq (q := 56) (c := a) (by simp only [Nat.reducePow]; omega), longAt_eq (q := 48) (c := b) (by simp only [Nat.reducePow]; omega), longAt_eq (q := 40) (c := c) (by simp only [Nat.reducePow]; omega), longAt_eq (q := 32) (c := d) (by simp only [Nat.reducePow]; omega), longAt_eq (q := 24) (c := e) (by simp only [Nat.reducePow]; omega), longAt_eq (q := 16) (c := f) (by simp only [Nat.reducePow]; omega), longAt_eq (q := 8) (c := g) (by simp only [Nat.reducePow]; omega), longAt_eq (q := 0) (c := h) (by simp only [Nat.reducePow]; omega)]
theorem decLong_enc {s r : List UInt8} {x : Nat} (h : decLong s = some (x, r)) : s = encLong x ++ r ∧ x < 18446744073709551616 := by
  unfold decLong at h
  split at h
  · cases h
  · rename_i hlt
    injection h with h
    injection h with h1 h2
    subst h1; subst h2
    match s, hlt with
    | a :: b :: c :: d :: e :: f :: g :: hh :: t, _ =>
      obtain ⟨h1, h2⟩ := long_enc8 a b c d e f g hh
      exact ⟨by show _ = encLong (longOf [a, b, c, d, e, f, g, hh]) ++ t; rw [h1]; rfl, h2⟩
    | [], hlt => simp at hlt
    | [_], hlt => simp at hlt
    | [_, _], hlt => simp at hlt
    | [_, _, _], hlt => simp at hlt
    | [_, _, _, _], hlt => simp at hlt
    | [_, _, _, _, _], hlt => simp at hlt
    | [_, _, _, _, _, _], hlt => simp at hlt
    | [_, _, _, _, _, _, _], hlt => simp at hlt
end Go.Proofs.YtpbdgbejcdncgaaGreatDoor.Wire
end

section
/- A READER OF BYTES: its box; Byte, Text, Long. -/
namespace Go.Proofs.YtpbdgbejcdncgaaGreatDoor.Wire
open Go.RowKit Flt Go.Proofs.YtpbdgbejcdncgaaGreatDoor.Val Go.Lib
variable {B : Nat}
attribute [local go_sem] run_store_flt
/-- what is thrown where bytes end too early, or tell nothing -/
abbrev shortP : Ending := .panicked [{ v := .iface 93 (.agg #[]), recovered := false }]
/-- a reader at box b that has the bytes s ahead -/
structure RdAt (W : World) (b B : Nat) (s : List UInt8) : Prop where
  ex : ∃ a0 cap, W.cell? ⟨b, 0, none⟩ = some (.slice a0 s.length cap) ∧ s.length ≤ cap ∧ cap ≤ maxLen ∧ BytesAt W a0 s ∧ (a0 = none → cap = 0) ∧ (s ≠ [] → ∀ a, a0 = some a → a.block < B)
  fz : W.frozen? ⟨b, 0, none⟩ = false
  hB : B ≤ b
/-- what a read leaves alone: all blocks but the reader's box -/
structure RK (b : Nat) (W W2 : World) : Prop where
  os : W2.os = W.os
  tape : W2.tape = W.tape
  output : W2.output = W.output
  size : W.heap.size ≤ W2.heap.size
  block : ∀ p, p < W.heap.size → p ≠ b → W2.heap[p]? = W.heap[p]?
theorem RK.refl (b : Nat) (W : World) : RK b W W := ⟨rfl, rfl, rfl, Nat.le_refl _, fun _ _ _ => rfl⟩
theorem RK.trans {b : Nat} {W W2 W3 : World} (h : RK b W W2) (k : RK b W2 W3) : RK b W W3 :=
  ⟨k.os.trans h.os, k.tape.trans h.tape, k.output.trans h.output, Nat.le_trans h.size k.size, fun p hp hne => (k.block p (Nat.lt_of_lt_of_le hp h.size) hne).trans (h.block p hp hne)⟩
theorem rk_below {b : Nat} {W W2 : World} (h : Below W.heap.size W W2) : RK b W W2 := ⟨h.os, h.tape, h.output, h.size, fun p hp _ => h.block p hp⟩
theorem RK.below {b B : Nat} {W W2 : World} (h : RK b W W2) (hB : B ≤ b) (hs : B ≤ W.heap.size) : Below B W W2 := ⟨h.os, h.tape, h.output, h.size, fun p hp => h.block p (by omega) (by omega)⟩
theorem RK.cell {b : Nat} {W W2 : World} (h : RK b W W2) {p : Addr} (h1 : p.block < W.heap.size) (h2 : p.block ≠ b) : W2.cell? p = W.cell? p := World.cell?_of_block (w := W) (h.block _ h1 h2)
theorem RK.frozen {b : Nat} {W W2 : World} (h : RK b W W2) {p : Addr} (h1 : p.block < W.heap.size) (h2 : p.block ≠ b) : W2.frozen? p = W.frozen? p := World.frozen?_of_block (w := W) (h.block _ h1 h2)
theorem RdAt.lt {W : World} {b : Nat} {s : List UInt8} (h : RdAt W b B s) : b < W.heap.size := by
  obtain ⟨⟨a0, cap, hc, _⟩, _, _⟩ := h
  exact World.block_lt_of_cell? _ _ hc
theorem RdAt.below {W W2 : World} {b : Nat} {s : List UInt8} (h : RdAt W b B s) (hb : Below W.heap.size W W2) : RdAt W2 b B s := by
  have hlt := h.lt
  obtain ⟨⟨a0, cap, hc, h1, h2, h3, h4, h5⟩, hf, hB⟩ := h
  exact ⟨⟨a0, cap, (hb.cell (p := ⟨b, 0, none⟩) hlt).trans hc, h1, h2, h3.below hb, h4, h5⟩, (hb.frozen (p := ⟨b, 0, none⟩) hlt).trans hf, hB⟩
/-- what is done above the reader leaves it alone -/
theorem RdAt.low {W W2 : World} {b : Nat} {s : List UInt8} (h : RdAt W b B s) (hb : Below (b + 1) W W2) : RdAt W2 b B s := by
  have hlt := h.lt
  obtain ⟨⟨a0, cap, hc, h1, h2, h3, h4, h5⟩, hf, hB⟩ := h
  refine ⟨⟨a0, cap, (hb.cell (p := ⟨b, 0, none⟩) (Nat.lt_succ_self b)).trans hc, h1, h2, fun i hi => ?_, h4, h5⟩, (hb.frozen (p := ⟨b, 0, none⟩) (Nat.lt_succ_self b)).trans hf, hB⟩
  obtain ⟨a, e, h6⟩ := h3 i hi
  have h7 := h5 (fun e0 => by rw [e0] at hi; simp at hi) a e
  have hab : (a.add i).block = a.block := by unfold Addr.add; split <;> rfl
  exact ⟨a, e, (hb.cell (by rw [hab]; omega)).trans h6⟩
theorem rk_set (b : Nat) (W : World) (v : Value) : RK b W (W.setCell ⟨b, 0, none⟩ v) := ⟨rfl, rfl, rfl, by simp, fun p _ hne => Below.heap_setCell _ _ _ _ hne⟩
/-- behind a step ahead -/
theorem rd_step {W : World} {b : Nat} {a : Addr} {s : List UInt8} {cap k : Nat} (hc : W.cell? ⟨b, 0, none⟩ = some (.slice (some a) s.length cap)) (hz : W.frozen? ⟨b, 0, none⟩ = false) (h1 : s.length ≤ cap) (h2 : cap ≤ maxLen) (h3 : BytesAt W (some a) s) (h5 : s ≠ [] → a.block < B) (hB : B ≤ b) (hk : k ≤ s.length) :
    RdAt (W.setCell ⟨b, 0, none⟩ (.slice (some (a.add k)) (s.length - k) (cap - k))) b B (s.drop k) := by
  have hab : ∀ i, (a.add i).block = a.block := fun i => by unfold Addr.add; split <;> rfl
  have hadd : ∀ i, (a.add k).add i = a.add (k + i) := fun i => Addr.add_add a k i
  refine ⟨⟨some (a.add k), cap - k, ?_, by rw [List.length_drop]; omega, by omega, fun i hi => ⟨_, rfl, ?_⟩, (fun e => by cases e), fun hne a2 e => by injection e with e; rw [← e, hab]; exact h5 (fun e0 => hne (by rw [e0]; simp))⟩, by simpa using hz, hB⟩
  · rw [List.length_drop]; exact World.cell?_setCell_same _ _ _ hc
  · rw [List.length_drop] at hi
    obtain ⟨a2, e2, h6⟩ := h3 (k + i) (by omega)
    injection e2 with e2
    subst e2
    rw [hadd, World.cell?_setCell_other _ _ _ _ (by intro e; have := congrArg Addr.block e; rw [hab] at this; have h7 := h5 (fun e0 => by rw [e0] at hi; simp at hi); rw [← this] at h7; exact Nat.lt_irrefl _ (Nat.lt_of_lt_of_le h7 hB)), h6, List.getElem_drop]
/-- behind the last step -/
theorem rd_end {W : World} {b : Nat} {a : Addr} {v : Value} (hc : W.cell? ⟨b, 0, none⟩ = some v) (hz : W.frozen? ⟨b, 0, none⟩ = false) (hB : B ≤ b) :
    RdAt (W.setCell ⟨b, 0, none⟩ (.slice (some a) 0 0)) b B [] :=
  ⟨⟨some a, 0, World.cell?_setCell_same _ _ _ hc, Nat.le_refl _, Nat.zero_le _, fun i hi => absurd hi (Nat.not_lt_zero _), (fun e => by cases e), fun hne => absurd rfl hne⟩, by simpa using hz, hB⟩
/-- what a read tells: what it took, and what is left; or nothing -/
def Took {α : Type} (B b : Nat) (w : World) (d : Option (α × List UInt8)) (ret : α → Value) (e : Ending) (w' : World) : Prop :=
  (∃ a t, d = some (a, t) ∧ e = .returned (ret a) ∧ RdAt w' b B t ∧ RK b w w') ∨ (d = none ∧ e = shortP ∧ RK b w w')
theorem took_yes {α : Type} {b : Nat} {w w' : World} {d : Option (α × List UInt8)} {ret : α → Value} {e : Ending} (a : α) (t : List UInt8) (h1 : d = some (a, t)) (h2 : e = .returned (ret a)) (h3 : RdAt w' b B t) (h4 : RK b w w') : Took B b w d ret e w' := .inl ⟨a, t, h1, h2, h3, h4⟩
theorem took_no {α : Type} {b : Nat} {w w' : World} {d : Option (α × List UInt8)} {ret : α → Value} {e : Ending} (h1 : d = none) (h2 : e = shortP) (h4 : RK b w w') : Took B b w d ret e w' := .inr ⟨h1, h2, h4⟩
def decByte : List UInt8 → Option (UInt8 × List UInt8)
  | [] => none
  | c :: t => some (c, t)
set_option maxRecDepth 20000 in
set_option maxHeartbeats 4000000 in
theorem rbyte_any (b : Nat) (s : List UInt8) (w : World) (h : RdAt w b B s) :
    Calls Tryz.prog 31 #[.pointer (some ⟨b, 0, none⟩)] w fun e w' => Took B b w (decByte s) (fun c => .int .i64 (c.toNat : Int)) e w' := by
  obtain ⟨⟨a0, cap, hc, h1, h2, h3, h4, h5⟩, hz, hB⟩ := h
  cases s with
  | nil =>
    clear h3
    go_enter Tryz.func31, Tryz.ntmps31
    go_wp2_with fail
    exact ⟨rfl, took_no rfl rfl (RK.refl _ _)⟩
  | cons c t =>
    obtain ⟨a, rfl, ha⟩ := h3 0 (by simp)
    have hst := rd_step hc hz h1 h2 h3 (fun hne => h5 hne a rfl) hB (k := 1) (by simp)
    have hen := rd_end (a := a) hc hz hB
    have ha0 : w.cell? a = some (.int .u8 (c.toNat : Int)) := by
      have : a.add 0 = a := by simp [Addr.add]
      rw [← this]; exact ha
    have hlt : b < w.heap.size := World.block_lt_of_cell? _ _ hc
    have hc8 := c.toNat_lt
    have HST := Lib.hid hst; have HEN := Lib.hid hen; clear hst h3 h4 h5 ha hen
    have j1 : (1 : Int) ≤ (cap : Int) := by simp at h1; omega
    rw [List.length_cons] at hc h1
    go_enter Tryz.func31, Tryz.ntmps31
    go_wp2_with fail
    all_goals
      go_ret
      refine took_yes c t rfl rfl ?_ (rk_set _ _ _)
    · have ht : t = [] := List.eq_nil_of_length_eq_zero (by omega)
      subst ht
      exact HEN.out
    · exact HST.out
set_option maxRecDepth 20000 in
set_option maxHeartbeats 4000000 in
theorem rtext_any (b : Nat) (s : List UInt8) (w : World) (h : RdAt w b B s) :
    Calls Tryz.prog 34 #[.pointer (some ⟨b, 0, none⟩)] w fun e w' => Took B b w (decText s) (fun t => .string ⟨t.toArray⟩) e w' := by
  have HH := Lib.hid h; clear h
  go_enter Tryz.func34, Tryz.ntmps34
  go_upto_region 2 with ((go_at_call 31; refine (rbyte_any b s w HH.out).mono ?_; rintro e w1 (⟨c, t, hd, rfl, hr, hk⟩ | ⟨hd, rfl, hk⟩)))
  · obtain ⟨⟨a0, cap, hc, h1, h2, h3, h4, h5⟩, hz, hB⟩ := hr
    have hs : s = c :: t := by
      cases s with
      | nil => cases hd
      | cons x y => injection hd with hd; injection hd with e1 e2; rw [e1, e2]
    have hlt : b < w1.heap.size := World.block_lt_of_cell? _ _ hc
    by_cases hn : t.length < c.toNat
    · have i1 : (t.length : Int) < (c.toNat : Int) := by omega
      have HD := Lib.hid (show decText s = none from by rw [hs]; show (if t.length < c.toNat then _ else _) = _; rw [if_pos hn])
      clear h3 h4 h5 hd hs
      go_wp2_with fail
      exact ⟨rfl, took_no HD.out rfl hk⟩
    · have i1 : ¬ (t.length : Int) < (c.toNat : Int) := by omega
      have i2 : (c.toNat : Int) ≤ (t.length : Int) := by omega
      have i3 : (c.toNat : Int) ≤ (cap : Int) := by omega
      have i4 : (0 : Int) ≤ (c.toNat : Int) := by omega
      have HD := Lib.hid (show decText s = some (t.take c.toNat, t.drop c.toNat) from by rw [hs]; show (if t.length < c.toNat then _ else _) = _; rw [if_neg hn])
      cases a0 with
      | none =>
        obtain rfl := h4 rfl
        have ht : t = [] := List.eq_nil_of_length_eq_zero (by omega)
        subst ht
        have hc0 : c.toNat = 0 := by simpa using hn
        have hen : RdAt (w1.setCell ⟨b, 0, none⟩ (.slice none 0 0)) b B [] := ⟨⟨none, 0, World.cell?_setCell_same _ _ _ hc, Nat.le_refl _, Nat.zero_le _, fun i hi => absurd hi (Nat.not_lt_zero _), (fun _ => rfl), fun hne => absurd rfl hne⟩, by simpa using hz, hB⟩
        rw [hc0] at HD ⊢
        have HEN := Lib.hid hen
        have hcv0 : ∀ W, (convert 37 9 (.slice none 0 0)).run Tryz.prog W = .ok (.string ⟨#[]⟩) W := fun W => by kernel_rfl
        clear h3 h4 h5 hd hs hen i1 i2 i3 i4 hn
        go_wp2_with fail
        go_ret
        exact took_yes [] [] HD.out rfl HEN.out (hk.trans (rk_set _ _ _))
      | some a =>
        have hcv : (convert 37 9 (.slice (some a) c.toNat cap)).run Tryz.prog w1 = .ok (.string ⟨(t.take c.toNat).toArray⟩) w1 := by
          have hl : (t.take c.toNat).length = c.toNat := by rw [List.length_take]; omega
          have := run_convert_bytes_back w1 37 9 5 a cap (t.take c.toNat) Tryz.underlying37 Tryz.underlying5 Tryz.underlying9 (fun j hj => by
            obtain ⟨a2, e2, h6⟩ := h3 j (by omega)
            injection e2 with e2
            subst e2
            rw [h6, List.getElem_take])
          rw [hl] at this
          exact this
        have hst := rd_step hc hz h1 h2 h3 (fun hne => h5 hne a rfl) hB (k := c.toNat) (by omega)
        have hen := rd_end (a := a) hc hz hB
        have HST := Lib.hid hst; have HEN := Lib.hid hen; have HCV := Lib.hid hcv
        clear hst hen h3 h4 h5 hd hs
        go_wp2_with fail
        all_goals
          go_ret
          refine took_yes _ _ HD.out rfl ?_ (hk.trans (rk_set _ _ _))
        · have e1 : t.length = c.toNat := by omega
          rw [e1, Nat.sub_self, List.drop_of_length_le (by omega)]
          exact HEN.out
        · exact HST.out
  · exact ⟨rfl, took_no (by cases s with | nil => rfl | cons x y => cases hd) rfl hk⟩
theorem fold_lt (s : List UInt8) : ∀ acc, s.foldl (fun x (c : UInt8) => x * 256 + c.toNat) acc < (acc + 1) * 256 ^ s.length := by
  induction s with
  | nil => intro acc; simp
  | cons c t ih =>
    intro acc
    have h := ih (acc * 256 + c.toNat)
    have hc := c.toNat_lt
    rw [List.foldl_cons, List.length_cons, Nat.pow_succ]
    have h2 : (acc * 256 + c.toNat + 1) * 256 ^ t.length ≤ ((acc + 1) * 256) * 256 ^ t.length := Nat.mul_le_mul_right _ (by omega)
    have h3 : (acc + 1) * (256 ^ t.length * 256) = ((acc + 1) * 256) * 256 ^ t.length := by rw [Nat.mul_comm (256 ^ t.length) 256, Nat.mul_assoc]
    omega
theorem longOf_lt {s : List UInt8} (h : s.length ≤ 7) : longOf s < 72057594037927936 := by
  have h1 := fold_lt s 0
  have h2 : 256 ^ s.length ≤ 256 ^ 7 := Nat.pow_le_pow_right (by decide) h
  have h3 : (256 : Nat) ^ 7 = 72057594037927936 := by decide
  unfold longOf
  omega
theorem or_byte {X c : Nat} (hX : X < 72057594037927936) (hc : c < 256) : bits .or .u64 (IntKind.u64.wrap ((X : Int) * 256)) (IntKind.u64.wrap (c : Int)) = ((X * 256 + c : Nat) : Int) := by
  have e1 : IntKind.u64.wrap ((X : Int) * 256) = ((X * 256 : Nat) : Int) := by
    simp only [IntKind.wrap, IntKind.bits, IntKind.signed]; simp; omega
  have e2 : IntKind.u64.wrap (c : Int) = (c : Int) := by
    simp only [IntKind.wrap, IntKind.bits, IntKind.signed]; simp; omega
  rw [e1, e2]
  show IntKind.u64.wrap ((BitVec.ofInt 64 ((X * 256 : Nat) : Int) ||| BitVec.ofInt 64 (c : Int)).toNat : Int) = _
  rw [BitVec.toNat_or, BitVec.ofInt_natCast, BitVec.ofInt_natCast, BitVec.toNat_ofNat, BitVec.toNat_ofNat, Nat.mod_eq_of_lt (by omega), Nat.mod_eq_of_lt (by omega)]
  have h := Nat.shiftLeft_add_eq_or_of_lt (i := 8) (b := c) (by simpa using hc) X
  rw [Nat.shiftLeft_eq] at h
  rw [show (2 : Nat) ^ 8 = 256 from rfl] at h
  rw [← h]
  simp only [IntKind.wrap, IntKind.bits, IntKind.signed]; simp; omega
theorem drop_facts {s t : List UInt8} {k : Nat} {c : UInt8} (h : decByte (s.drop k) = some (c, t)) : k < s.length ∧ s.take (k + 1) = s.take k ++ [c] ∧ s.drop (k + 1) = t := by
  have hd : s.drop k = c :: t := by
    cases hs : s.drop k with
    | nil => rw [hs] at h; cases h
    | cons x y => rw [hs] at h; injection h with h; injection h with e1 e2; rw [e1, e2]
  have hl : k < s.length := by
    have := congrArg List.length hd
    rw [List.length_drop, List.length_cons] at this
    omega
  refine ⟨hl, ?_, ?_⟩
  · rw [List.take_add_one]
    congr 1
    have : s[k]? = (s.drop k)[0]? := by rw [List.getElem?_drop]; simp
    rw [this, hd]; rfl
  · rw [← List.drop_drop, hd]; rfl
set_option maxRecDepth 20000 in
set_option maxHeartbeats 4000000 in
theorem rlong_any (b : Nat) (s : List UInt8) (w : World) (h : RdAt w b B s) :
    Calls Tryz.prog 35 #[.pointer (some ⟨b, 0, none⟩)] w fun e w' => Took B b w (decLong s) (fun x => .int .u64 (x : Int)) e w' := by
  have HH := Lib.hid h; clear h
  go_enter Tryz.func35, Tryz.ntmps35
  go_wp2_with fail
  go_loopw [3, 4] (fun vx vi wr => ∃ k : Nat, k ≤ 8 ∧ k ≤ s.length ∧ vi = .int .i64 k ∧ vx = .int .u64 (longOf (s.take k)) ∧ RdAt wr b B (s.drop k) ∧ RK b w wr) (fun _ vi _ => 8 - (RowKit.intOf vi).toNat)
  case atStart => exact ⟨0, by omega, by omega, rfl, rfl, HH.out, RK.refl _ _⟩
  case round =>
    obtain ⟨k, hk, hks, rfl, rfl, hrd, hrk⟩ := hrel
    by_cases hlt : k < 8
    · have i1 : (k : Int) < 8 := by omega
      have HRD := Lib.hid hrd; have HRK := Lib.hid hrk; clear hrd hrk
      obtain ⟨X, hX⟩ : ∃ X, longOf (s.take k) = X := ⟨_, rfl⟩
      rw [hX]
      go_wp2_with (first | (go_at_call 31; refine (rbyte_any b _ wr HRD.out).mono ?_; rintro e w1 (⟨c, t, hd, rfl, hr, hk⟩ | ⟨hd, rfl, hk⟩)) | fail)
      · obtain ⟨f1, f2, f3⟩ := drop_facts hd
        have hX7 : X < 72057594037927936 := by rw [← hX]; exact longOf_lt (by rw [List.length_take]; omega)
        refine ⟨⟨k + 1, by omega, by omega, by go_num, ?_, by rw [f3]; exact hr, HRK.out.trans hk⟩, by simp [RowKit.intOf]; go_num⟩
        rw [or_byte hX7 c.toNat_lt, f2, longOf_snoc, hX]
      · refine ⟨rfl, took_no ?_ rfl (HRK.out.trans hk)⟩
        have hl : s.length ≤ k := by
          cases hs : s.drop k with
          | nil => exact List.drop_eq_nil_iff.1 hs
          | cons x y => rw [hs] at hd; cases hd
        unfold decLong
        rw [if_pos (by omega)]
    · have i1 : ¬ (k : Int) < 8 := by omega
      obtain rfl : k = 8 := by omega
      go_wp2_with fail
      go_ret
      exact took_yes _ _ (by unfold decLong; rw [if_neg (by omega)]) rfl hrd hrk
end Go.Proofs.YtpbdgbejcdncgaaGreatDoor.Wire
end

section
/- THE WALKS OF package order: Back. -/
namespace Go.Proofs.YtpbdgbejcdncgaaGreatDoor.Ord
open Go.RowKit Flt
attribute [local go_sem] ford_eq ford_lt ford_gt
theorem none_most (k : Nat) : ((k : Int) == 18446744073709551615) = decide (k = most) := by
  rw [Bool.eq_iff_iff]; unfold most; simp; omega
theorem bne_cast (a b : Nat) : ((a : Int) != (b : Int)) = (a != b) := by rw [bne, bne, beq_cast]
set_option maxHeartbeats 400000 in
theorem back_any (k : Nat) (hk : k < 18446744073709551616) (w : World) :
    Calls Tryz.prog 67 #[.int .u64 k] w fun e w' => e = .returned (.tuple #[.float .f64 (back k).1, .bool (back k).2]) ∧ w = w' := by
  have hc := frombits_call
  have hs : IntKind.u64.signed = false := by decide
  have hbl := backB_lt hk
  have hx := umax_xor k hk
  have ho := top_off k hk
  have h1 := ford_ne_self (backB k)
  have hB : backB k = if k / 9223372036854775808 = 0 then most - k else k % 9223372036854775808 := rfl
  have hR : back k = if k = most then (nan0, true) else if nan (backB k) || key (backB k) != k then (0, false) else (backB k, true) := rfl
  have hq := none_most k
  have hne := bne_cast (key (backB k)) k
  by_cases h : k / 9223372036854775808 = 0
  · have hz : ((k : Int) / 9223372036854775808 == 0) = true := by rw [beq_iff_eq]; omega
    rw [if_pos h] at hB
    rw [← hB] at hx
    clear hB h hk
    by_cases hm : k = most
    · rw [if_pos hm] at hR
      rw [decide_eq_true hm] at hq
      clear hm hne h1
      rw [hR]; clear hR
      go_enter Tryz.func67, Tryz.ntmps67
      go_wp2_with (go_at_call 70; refine (nan_any _).mono ?_; rintro e w' ⟨rfl, rfl⟩)
      go_ret2
      exact ⟨rfl, rfl⟩
    · rw [if_neg hm] at hR
      rw [decide_eq_false hm] at hq
      clear hm
      cases hn : nan (backB k)
      · rw [hn] at h1 hR
        cases hkk : key (backB k) != k
        · rw [hkk] at hR hne; clear hn hkk
          rw [show back k = (backB k, true) from hR]; clear hR
          go_enter Tryz.func67, Tryz.ntmps67
          go_wp2_with (go_at_call 66; refine (key_any _ hbl _).mono ?_; rintro e w' ⟨rfl, rfl⟩)
          go_ret2
          exact ⟨rfl, rfl⟩
        · rw [hkk] at hR hne; clear hn hkk
          rw [show back k = (0, false) from hR]; clear hR
          go_enter Tryz.func67, Tryz.ntmps67
          go_wp2_with (go_at_call 66; refine (key_any _ hbl _).mono ?_; rintro e w' ⟨rfl, rfl⟩)
          go_ret2
          exact ⟨rfl, rfl⟩
      · rw [hn] at h1 hR; clear hn hne
        rw [show back k = (0, false) from hR]; clear hR
        go_enter Tryz.func67, Tryz.ntmps67
        go_wp2
        go_ret2
        exact ⟨rfl, rfl⟩
  · have hz : ((k : Int) / 9223372036854775808 == 0) = false := by rw [beq_eq_false_iff_ne]; omega
    rw [if_neg h] at hB
    rw [← hB] at ho
    clear hB h hk hx
    by_cases hm : k = most
    · rw [if_pos hm] at hR
      rw [decide_eq_true hm] at hq
      clear hm hne h1
      rw [hR]; clear hR
      go_enter Tryz.func67, Tryz.ntmps67
      go_wp2_with (go_at_call 70; refine (nan_any _).mono ?_; rintro e w' ⟨rfl, rfl⟩)
      go_ret2
      exact ⟨rfl, rfl⟩
    · rw [if_neg hm] at hR
      rw [decide_eq_false hm] at hq
      clear hm
      cases hn : nan (backB k)
      · rw [hn] at h1 hR
        cases hkk : key (backB k) != k
        · rw [hkk] at hR hne; clear hn hkk
          rw [show back k = (backB k, true) from hR]; clear hR
          go_enter Tryz.func67, Tryz.ntmps67
          go_wp2_with (go_at_call 66; refine (key_any _ hbl _).mono ?_; rintro e w' ⟨rfl, rfl⟩)
          go_ret2
          exact ⟨rfl, rfl⟩
        · rw [hkk] at hR hne; clear hn hkk
          rw [show back k = (0, false) from hR]; clear hR
          go_enter Tryz.func67, Tryz.ntmps67
          go_wp2_with (go_at_call 66; refine (key_any _ hbl _).mono ?_; rintro e w' ⟨rfl, rfl⟩)
          go_ret2
          exact ⟨rfl, rfl⟩
      · rw [hn] at h1 hR; clear hn hne
        rw [show back k = (0, false) from hR]; clear hR
        go_enter Tryz.func67, Tryz.ntmps67
        go_wp2
        go_ret2
        exact ⟨rfl, rfl⟩
end Go.Proofs.YtpbdgbejcdncgaaGreatDoor.Ord
end

section
/- A READER OF BYTES: a value. -/
namespace Go.Proofs.YtpbdgbejcdncgaaGreatDoor.Wire
open Go.RowKit Flt Go.Proofs.YtpbdgbejcdncgaaGreatDoor.Val Go.Lib
variable {B : Nat}
attribute [local go_sem] run_store_flt
def decVal : List UInt8 → Option (V × List UInt8)
  | [] => none
  | c :: t =>
    if c = 0 then match decLong t with
      | none => none
      | some (x, r) => some (⟨0, i64of x, 0, [], false⟩, r)
    else if c = 1 then match decLong t with
      | none => none
      | some (x, r) => if (Ord.back x).2 then some (⟨1, 0, (Ord.back x).1, [], false⟩, r) else none
    else if c = 2 then match decText t with
      | none => none
      | some (u, r) => if u.length ≤ 40 then some (⟨2, 0, 0, u, false⟩, r) else none
    else if c = 3 then match t with
      | [] => none
      | d :: r => if d.toNat ≤ 1 then some (⟨3, 0, 0, [], d == 1⟩, r) else none
    else none
/-- five cells of a box -/
structure Box5 (W : World) (p : Nat) (v0 v1 v2 v3 v4 : Value) : Prop where
  c0 : W.cell? ⟨p, 0, none⟩ = some v0
  c1 : W.cell? ⟨p, 1, none⟩ = some v1
  c2 : W.cell? ⟨p, 2, none⟩ = some v2
  c3 : W.cell? ⟨p, 3, none⟩ = some v3
  c4 : W.cell? ⟨p, 4, none⟩ = some v4
  z : ∀ o, W.frozen? ⟨p, o, none⟩ = false
theorem Box5.lt {W : World} {p : Nat} {v0 v1 v2 v3 v4 : Value} (h : Box5 W p v0 v1 v2 v3 v4) : p < W.heap.size := World.block_lt_of_cell? _ _ h.c0
theorem Box5.rk {W W2 : World} {p b : Nat} {v0 v1 v2 v3 v4 : Value} (h : Box5 W p v0 v1 v2 v3 v4) (hk : RK b W W2) (hne : p ≠ b) : Box5 W2 p v0 v1 v2 v3 v4 :=
  ⟨(hk.cell h.lt hne).trans h.c0, (hk.cell h.lt hne).trans h.c1, (hk.cell h.lt hne).trans h.c2, (hk.cell h.lt hne).trans h.c3, (hk.cell h.lt hne).trans h.c4, fun o => (hk.frozen (p := ⟨p, o, none⟩) h.lt hne).trans (h.z o)⟩
theorem Box5.below {W W2 : World} {p : Nat} {v0 v1 v2 v3 v4 : Value} (h : Box5 W p v0 v1 v2 v3 v4) (hb : Below W.heap.size W W2) : Box5 W2 p v0 v1 v2 v3 v4 :=
  ⟨(hb.cell (p := ⟨p, 0, none⟩) h.lt).trans h.c0, (hb.cell (p := ⟨p, 1, none⟩) h.lt).trans h.c1, (hb.cell (p := ⟨p, 2, none⟩) h.lt).trans h.c2, (hb.cell (p := ⟨p, 3, none⟩) h.lt).trans h.c3, (hb.cell (p := ⟨p, 4, none⟩) h.lt).trans h.c4, fun o => (hb.frozen (p := ⟨p, o, none⟩) h.lt).trans (h.z o)⟩
theorem Box5.other {W : World} {p q o : Nat} {u : Value} {v0 v1 v2 v3 v4 : Value} (h : Box5 W p v0 v1 v2 v3 v4) (hne : p ≠ q) : Box5 (W.setCell ⟨q, o, none⟩ u) p v0 v1 v2 v3 v4 := by
  have e : ∀ o2, (W.setCell ⟨q, o, none⟩ u).cell? ⟨p, o2, none⟩ = W.cell? ⟨p, o2, none⟩ := fun o2 => World.cell?_setCell_other _ _ _ _ (by intro e; injection e with e1; exact hne e1.symm)
  exact ⟨(e 0).trans h.c0, (e 1).trans h.c1, (e 2).trans h.c2, (e 3).trans h.c3, (e 4).trans h.c4, fun o2 => by simpa using h.z o2⟩
theorem box5_new (w : World) (v0 v1 v2 v3 v4 : Value) (T : TypeId) : Box5 (w.alloc (.cells #[v0, v1, v2, v3, v4] T)) w.heap.size v0 v1 v2 v3 v4 := by
  have c : ∀ o, (w.alloc (.cells #[v0, v1, v2, v3, v4] T)).cell? ⟨w.heap.size, o, none⟩ = #[v0, v1, v2, v3, v4][o]? := fun o => World.cell?_alloc_at _ _ _ _ rfl
  exact ⟨c 0, c 1, c 2, c 3, c 4, fun o => by simp⟩
theorem rk_far {b q o : Nat} {W : World} {u : Value} {W0 : World} (h : RK b W0 W) (hq : W0.heap.size ≤ q) : RK b W0 (W.setCell ⟨q, o, none⟩ u) :=
  ⟨h.os, h.tape, h.output, by simpa using h.size, fun p hp hne => by rw [Below.heap_setCell _ _ _ _ (by show p ≠ q; omega)]; exact h.block p hp hne⟩
theorem rd_far {b q o : Nat} {W : World} {u : Value} {s : List UInt8} (h : RdAt W b B s) (hq : b < q) : RdAt (W.setCell ⟨q, o, none⟩ u) b B s :=
  h.low ((Below.refl _ _).setCell (by show b + 1 ≤ q; omega) _)
/-- the five cells of the result are laid -/
theorem rd_put5 {b q : Nat} {W W0 : World} {s : List UInt8} {v0 v1 v2 v3 v4 : Value} (h : RdAt W b B s) (hk : RK b W0 W) (hq : b < q) (hq2 : W0.heap.size ≤ q) :
    RdAt (((((W.setCell ⟨q, 0, none⟩ v0).setCell ⟨q, 1, none⟩ v1).setCell ⟨q, 2, none⟩ v2).setCell ⟨q, 3, none⟩ v3).setCell ⟨q, 4, none⟩ v4) b B s ∧ RK b W0 (((((W.setCell ⟨q, 0, none⟩ v0).setCell ⟨q, 1, none⟩ v1).setCell ⟨q, 2, none⟩ v2).setCell ⟨q, 3, none⟩ v3).setCell ⟨q, 4, none⟩ v4) :=
  ⟨rd_far (rd_far (rd_far (rd_far (rd_far h hq) hq) hq) hq) hq, rk_far (rk_far (rk_far (rk_far (rk_far hk hq2) hq2) hq2) hq2) hq2⟩
theorem vright_is (v : V) (w : World) (B : Bool) (hB : vRight v = B) (ht : v.text.length ≤ 140737488351232) :
    Calls Tryz.prog 39 #[vv v] w fun e w' => e = .returned (.bool B) ∧ Below w.heap.size w w' := by
  obtain ⟨k, n, x, t, y⟩ := v
  have := vright_any k n x t y w ht
  rw [hB] at this
  exact this
theorem decVal_cons (c : UInt8) (t : List UInt8) : decVal (c :: t) = if c = 0 then match decLong t with
      | none => none
      | some (x, r) => some (⟨0, i64of x, 0, [], false⟩, r)
    else if c = 1 then match decLong t with
      | none => none
      | some (x, r) => if (Ord.back x).2 then some (⟨1, 0, (Ord.back x).1, [], false⟩, r) else none
    else if c = 2 then match decText t with
      | none => none
      | some (u, r) => if u.length ≤ 40 then some (⟨2, 0, 0, u, false⟩, r) else none
    else if c = 3 then match t with
      | [] => none
      | d :: r => if d.toNat ≤ 1 then some (⟨3, 0, 0, [], d == 1⟩, r) else none
    else none := rfl
theorem took_some {α : Type} {b : Nat} {w w' : World} {a : α} {t : List UInt8} {ret : α → Value} {e : Ending} (h : Took B b w (some (a, t)) ret e w') : e = .returned (ret a) ∧ RdAt w' b B t ∧ RK b w w' := by
  rcases h with ⟨a1, t1, hd, h1, h2, h3⟩ | ⟨hd, _⟩
  · injection hd with hd; injection hd with e1 e2; subst e1; subst e2; exact ⟨h1, h2, h3⟩
  · cases hd
theorem took_none {α : Type} {b : Nat} {w w' : World} {ret : α → Value} {e : Ending} (h : Took B b w none ret e w') : e = shortP ∧ RK b w w' := by
  rcases h with ⟨a1, t1, hd, _⟩ | ⟨_, h1, h2⟩
  · cases hd
  · exact ⟨h1, h2⟩
theorem Box5.set1 {W : World} {q : Nat} {u v0 v1 v2 v3 v4 : Value} (h : Box5 W q v0 v1 v2 v3 v4) : Box5 (W.setCell ⟨q, 1, none⟩ u) q v0 u v2 v3 v4 := ⟨(World.cell?_setCell_other _ _ _ _ (by intro e; injection e with _ e2; exact absurd e2 (by decide))).trans h.c0, World.cell?_setCell_same _ _ _ h.c1, (World.cell?_setCell_other _ _ _ _ (by intro e; injection e with _ e2; exact absurd e2 (by decide))).trans h.c2, (World.cell?_setCell_other _ _ _ _ (by intro e; injection e with _ e2; exact absurd e2 (by decide))).trans h.c3, (World.cell?_setCell_other _ _ _ _ (by intro e; injection e with _ e2; exact absurd e2 (by decide))).trans h.c4, fun o => by simpa using h.z o⟩
theorem Box5.set2 {W : World} {q : Nat} {u v0 v1 v2 v3 v4 : Value} (h : Box5 W q v0 v1 v2 v3 v4) : Box5 (W.setCell ⟨q, 2, none⟩ u) q v0 v1 u v3 v4 := ⟨(World.cell?_setCell_other _ _ _ _ (by intro e; injection e with _ e2; exact absurd e2 (by decide))).trans h.c0, (World.cell?_setCell_other _ _ _ _ (by intro e; injection e with _ e2; exact absurd e2 (by decide))).trans h.c1, World.cell?_setCell_same _ _ _ h.c2, (World.cell?_setCell_other _ _ _ _ (by intro e; injection e with _ e2; exact absurd e2 (by decide))).trans h.c3, (World.cell?_setCell_other _ _ _ _ (by intro e; injection e with _ e2; exact absurd e2 (by decide))).trans h.c4, fun o => by simpa using h.z o⟩
theorem Box5.set3 {W : World} {q : Nat} {u v0 v1 v2 v3 v4 : Value} (h : Box5 W q v0 v1 v2 v3 v4) : Box5 (W.setCell ⟨q, 3, none⟩ u) q v0 v1 v2 u v4 := ⟨(World.cell?_setCell_other _ _ _ _ (by intro e; injection e with _ e2; exact absurd e2 (by decide))).trans h.c0, (World.cell?_setCell_other _ _ _ _ (by intro e; injection e with _ e2; exact absurd e2 (by decide))).trans h.c1, (World.cell?_setCell_other _ _ _ _ (by intro e; injection e with _ e2; exact absurd e2 (by decide))).trans h.c2, World.cell?_setCell_same _ _ _ h.c3, (World.cell?_setCell_other _ _ _ _ (by intro e; injection e with _ e2; exact absurd e2 (by decide))).trans h.c4, fun o => by simpa using h.z o⟩
theorem Box5.set4 {W : World} {q : Nat} {u v0 v1 v2 v3 v4 : Value} (h : Box5 W q v0 v1 v2 v3 v4) : Box5 (W.setCell ⟨q, 4, none⟩ u) q v0 v1 v2 v3 u := ⟨(World.cell?_setCell_other _ _ _ _ (by intro e; injection e with _ e2; exact absurd e2 (by decide))).trans h.c0, (World.cell?_setCell_other _ _ _ _ (by intro e; injection e with _ e2; exact absurd e2 (by decide))).trans h.c1, (World.cell?_setCell_other _ _ _ _ (by intro e; injection e with _ e2; exact absurd e2 (by decide))).trans h.c2, (World.cell?_setCell_other _ _ _ _ (by intro e; injection e with _ e2; exact absurd e2 (by decide))).trans h.c3, World.cell?_setCell_same _ _ _ h.c4, fun o => by simpa using h.z o⟩
set_option maxRecDepth 20000 in
set_option maxHeartbeats 4000000 in
theorem rvalue_any (b : Nat) (s : List UInt8) (w : World) (h : RdAt w b B s) :
    Calls Tryz.prog 48 #[.pointer (some ⟨b, 0, none⟩)] w fun e w' => Took B b w (decVal s) vv e w' := by
  have hbw := h.lt
  cases s with
  | nil =>
    have HH := Lib.hid (h.below (balloc w (.cells #[.int .i64 0, .int .i64 0, .float .f64 0, .string ⟨#[]⟩, .bool false] 47))); clear h
    go_enter Tryz.func48, Tryz.ntmps48
    go_wp2_with (first | (go_at_call 31; refine (rbyte_any b [] _ HH.out).mono ?_; rintro e w1 (⟨c, t, hd, rfl, hr, hk⟩ | ⟨hd, rfl, hk⟩); (cases hd)) | fail)
    exact ⟨rfl, took_no rfl rfl ((rk_below (balloc _ _)).trans hk)⟩
  | cons c t =>
    have HH := Lib.hid (h.below (balloc w (.cells #[.int .i64 0, .int .i64 0, .float .f64 0, .string ⟨#[]⟩, .bool false] 47)))
    have HP := Lib.hid (box5_new w (.int .i64 0) (.int .i64 0) (.float .f64 0) (.string ⟨#[]⟩) (.bool false) 47)
    clear h
    go_enter Tryz.func48, Tryz.ntmps48
    go_upto_region 2 with (go_at_call 31; refine (rbyte_any b (c :: t) _ HH.out).mono ?_; rintro e w1 (⟨c1, t1, hd, rfl, hr, hk⟩ | ⟨hd, rfl, hk⟩); (injection hd with hd; injection hd with e1 e2; subst e1; subst e2); rotate_left; (cases hd))
    have hw1 : w.heap.size < w1.heap.size := Nat.lt_of_lt_of_le (by simp) hk.size
    have HBP := Lib.hid ((HP.out.rk hk (by omega)).below (balloc w1 (.cells #[.int .i64 (c.toNat : Int), .int .i64 0, .float .f64 0, .string ⟨#[]⟩, .bool false] 47)))
    have HBQ := Lib.hid (box5_new w1 (.int .i64 (c.toNat : Int)) (.int .i64 0) (.float .f64 0) (.string ⟨#[]⟩) (.bool false) 47)
    have HR1 := Lib.hid (hr.below (balloc w1 (.cells #[.int .i64 (c.toNat : Int), .int .i64 0, .float .f64 0, .string ⟨#[]⟩, .bool false] 47)))
    have HK1 := Lib.hid ((rk_below (b := b) (balloc w (.cells #[.int .i64 0, .int .i64 0, .float .f64 0, .string ⟨#[]⟩, .bool false] 47))).trans (hk.trans (rk_below (balloc w1 (.cells #[.int .i64 (c.toNat : Int), .int .i64 0, .float .f64 0, .string ⟨#[]⟩, .bool false] 47)))))
    generalize World.alloc w1 _ = W1 at *
    generalize w1.heap.size = q at *
    clear hr hk HH HP
    have hqb : q ≠ b := by omega
    have hpb : w.heap.size ≠ b := by omega
    have hpq : w.heap.size ≠ q := by omega
    obtain ⟨k, hk⟩ : ∃ k : Int, (c.toNat : Int) = k := ⟨_, rfl⟩
    rw [hk] at HBQ ⊢
    obtain ⟨y0, y1, y2, y3, y4, yz⟩ := HBQ.out
    by_cases c0 : c = 0
    · obtain rfl : k = 0 := by rw [← hk, c0]; rfl
      cases hd : decLong t with
      | none =>
        have HD := Lib.hid (show decVal (c :: t) = none from by rw [decVal_cons, if_pos c0, hd])
        go_wp2_with (first | (go_at_call 35; refine (rlong_any b t W1 HR1.out).mono ?_; rw [hd]; rintro e w2 h2; obtain ⟨rfl, hk2⟩ := took_none h2) | fail)
        exact ⟨rfl, took_no HD.out rfl (HK1.out.trans hk2)⟩
      | some pr =>
        obtain ⟨x, r⟩ := pr
        obtain ⟨I, hI⟩ : ∃ I, i64of x = I := ⟨_, rfl⟩
        have HD := Lib.hid (show decVal (c :: t) = some (⟨0, I, 0, [], false⟩, r) from by rw [decVal_cons, if_pos c0, hd, ← hI])
        have hI2 : IntKind.i64.wrap (x : Int) = I := hI
        go_wp2_with (first | (go_at_call 35; refine (rlong_any b t W1 HR1.out).mono ?_; rw [hd]; rintro e w2 h2; obtain ⟨rfl, hr2, hk2⟩ := took_some h2; have HBP2 := Lib.hid (HBP.out.rk hk2 hpb); have HBQ2 := Lib.hid (HBQ.out.rk hk2 hqb); obtain ⟨x0, x1, x2, x3, x4, xz⟩ := HBQ2.out) | (go_at_call 39; refine (vright_is ⟨0, I, 0, [], false⟩ _ true (rfl) (by simp; try omega)).mono ?_; rintro e w4 ⟨rfl, hb4⟩; have HBP4 := Lib.hid ((HBP2.out.other hpq).below hb4); obtain ⟨x0, x1, x2, x3, x4, xz⟩ := (HBQ2.out.set1).below hb4; obtain ⟨u0, u1, u2, u3, u4, uz⟩ := HBP4.out) | fail)
        have hr4 := (rd_far (o := 1) (u := (.int .i64 I)) hr2 (q := q) (by omega)).below hb4
        have hk4 := (rk_far (o := 1) (u := (.int .i64 I)) (HK1.out.trans hk2) (q := q) (by omega)).trans (rk_below hb4)
        obtain ⟨hr5, hk5⟩ := rd_put5 (q := w.heap.size) hr4 hk4 hbw (Nat.le_refl _)
        obtain ⟨e0, e1, e2, e3, e4, _⟩ := set5_at w4 w.heap.size (.int .i64 0) (.int .i64 I) (.float .f64 0) (.string ⟨#[]⟩) (.bool false) (fun j hj => by match j, hj with | 0, _ => rw [u0]; rfl | 1, _ => rw [u1]; rfl | 2, _ => rw [u2]; rfl | 3, _ => rw [u3]; rfl | 4, _ => rw [u4]; rfl)
        refine bodyPost_ret (v := vv ⟨0, I, 0, [], false⟩) (by simp [results, Tryz.results48, go_sem, e0, e1, e2, e3, e4]; try rfl) rfl ?_
        exact took_yes ⟨0, I, 0, [], false⟩ r HD.out rfl hr5 hk5
    have n0 : (k == 0) = false := by rw [← hk, beq_eq_false_iff_ne]; intro e; exact c0 (UInt8.toNat_inj.1 (by simpa using e))
    by_cases c1 : c = 1
    · obtain rfl : k = 1 := by rw [← hk, c1]; rfl
      cases hd : decLong t with
      | none =>
        have HD := Lib.hid (show decVal (c :: t) = none from by rw [decVal_cons, if_neg c0, if_pos c1, hd])
        go_wp2_with (first | (go_at_call 35; refine (rlong_any b t W1 HR1.out).mono ?_; rw [hd]; rintro e w2 h2; obtain ⟨rfl, hk2⟩ := took_none h2) | fail)
        exact ⟨rfl, took_no HD.out rfl (HK1.out.trans hk2)⟩
      | some pr =>
        obtain ⟨x, r⟩ := pr
        have hback := fun w => Ord.back_any x (decLong_enc hd).2 w
        have hdv : decVal (c :: t) = if (Ord.back x).2 then some (⟨1, 0, (Ord.back x).1, [], false⟩, r) else none := by rw [decVal_cons, if_neg c0, if_pos c1, hd]
        generalize Ord.back x = bk at *
        obtain ⟨X, ok⟩ := bk
        dsimp only at hback hdv
        have HBK := Lib.hid hback; clear hback
        cases ok
        · have HD := Lib.hid hdv; clear hdv
          go_wp2_with (first | (go_at_call 35; refine (rlong_any b t W1 HR1.out).mono ?_; rw [hd]; rintro e w2 h2; obtain ⟨rfl, hr2, hk2⟩ := took_some h2; have HBP2 := Lib.hid (HBP.out.rk hk2 hpb); have HBQ2 := Lib.hid (HBQ.out.rk hk2 hqb); obtain ⟨x0, x1, x2, x3, x4, xz⟩ := HBQ2.out) | (go_at_call 67; refine (HBK.out _).mono ?_; rintro e w' ⟨rfl, rfl⟩) | fail)
          exact ⟨rfl, took_no HD.out rfl (HK1.out.trans hk2)⟩
        have HD := Lib.hid hdv; clear hdv
        go_wp2_with (first | (go_at_call 35; refine (rlong_any b t W1 HR1.out).mono ?_; rw [hd]; rintro e w2 h2; obtain ⟨rfl, hr2, hk2⟩ := took_some h2; have HBP2 := Lib.hid (HBP.out.rk hk2 hpb); have HBQ2 := Lib.hid (HBQ.out.rk hk2 hqb); obtain ⟨x0, x1, x2, x3, x4, xz⟩ := HBQ2.out) | (go_at_call 67; refine (HBK.out _).mono ?_; rintro e w' ⟨rfl, rfl⟩) | (go_at_call 39; refine (vright_is ⟨1, 0, X, [], false⟩ _ true (rfl) (by simp)).mono ?_; rintro e w4 ⟨rfl, hb4⟩; have HBP4 := Lib.hid ((HBP2.out.other hpq).below hb4); obtain ⟨x0, x1, x2, x3, x4, xz⟩ := (HBQ2.out.set2).below hb4; obtain ⟨u0, u1, u2, u3, u4, uz⟩ := HBP4.out) | fail)
        have hr4 := (rd_far (o := 2) (u := (.float .f64 X)) hr2 (q := q) (by omega)).below hb4
        have hk4 := (rk_far (o := 2) (u := (.float .f64 X)) (HK1.out.trans hk2) (q := q) (by omega)).trans (rk_below hb4)
        obtain ⟨hr5, hk5⟩ := rd_put5 (q := w.heap.size) hr4 hk4 hbw (Nat.le_refl _)
        obtain ⟨e0, e1, e2, e3, e4, _⟩ := set5_at w4 w.heap.size (.int .i64 1) (.int .i64 0) (.float .f64 X) (.string ⟨#[]⟩) (.bool false) (fun j hj => by match j, hj with | 0, _ => rw [u0]; rfl | 1, _ => rw [u1]; rfl | 2, _ => rw [u2]; rfl | 3, _ => rw [u3]; rfl | 4, _ => rw [u4]; rfl)
        refine bodyPost_ret (v := vv ⟨1, 0, X, [], false⟩) (by simp [results, Tryz.results48, go_sem, e0, e1, e2, e3, e4]; try rfl) rfl ?_
        exact took_yes ⟨1, 0, X, [], false⟩ r HD.out rfl hr5 hk5
    have n1 : (k == 1) = false := by rw [← hk, beq_eq_false_iff_ne]; intro e; exact c1 (UInt8.toNat_inj.1 (by show c.toNat = 1; omega))
    by_cases c2 : c = 2
    · obtain rfl : k = 2 := by rw [← hk, c2]; rfl
      cases hd : decText t with
      | none =>
        have HD := Lib.hid (show decVal (c :: t) = none from by rw [decVal_cons, if_neg c0, if_neg c1, if_pos c2, hd])
        go_wp2_with (first | (go_at_call 34; refine (rtext_any b t W1 HR1.out).mono ?_; rw [hd]; rintro e w2 h2; obtain ⟨rfl, hk2⟩ := took_none h2) | fail)
        exact ⟨rfl, took_no HD.out rfl (HK1.out.trans hk2)⟩
      | some pr =>
        obtain ⟨u, r⟩ := pr
        have hul : u.length ≤ 140737488351232 := by have := (decText_enc hd).2; omega
        have hdv : decVal (c :: t) = if u.length ≤ 40 then some (⟨2, 0, 0, u, false⟩, r) else none := by rw [decVal_cons, if_neg c0, if_neg c1, if_pos c2, hd]
        by_cases hu : u.length ≤ 40
        rotate_left
        · have hvr : vRight ⟨2, 0, 0, u, false⟩ = false := by simp [vRight]; omega
          rw [if_neg hu] at hdv
          have HD := Lib.hid hdv; clear hdv
          go_wp2_with (first | (go_at_call 34; refine (rtext_any b t W1 HR1.out).mono ?_; rw [hd]; rintro e w2 h2; obtain ⟨rfl, hr2, hk2⟩ := took_some h2; have HBP2 := Lib.hid (HBP.out.rk hk2 hpb); have HBQ2 := Lib.hid (HBQ.out.rk hk2 hqb); obtain ⟨x0, x1, x2, x3, x4, xz⟩ := HBQ2.out) | (go_at_call 39; refine (vright_is ⟨2, 0, 0, u, false⟩ _ false hvr hul).mono ?_; rintro e w4 ⟨rfl, hb4⟩) | fail)
          exact ⟨rfl, took_no HD.out rfl ((rk_far (HK1.out.trans hk2) (by omega)).trans (rk_below hb4))⟩
        have hvr : vRight ⟨2, 0, 0, u, false⟩ = true := by simp [vRight]; omega
        rw [if_pos hu] at hdv
        have HD := Lib.hid hdv; clear hdv
        go_wp2_with (first | (go_at_call 34; refine (rtext_any b t W1 HR1.out).mono ?_; rw [hd]; rintro e w2 h2; obtain ⟨rfl, hr2, hk2⟩ := took_some h2; have HBP2 := Lib.hid (HBP.out.rk hk2 hpb); have HBQ2 := Lib.hid (HBQ.out.rk hk2 hqb); obtain ⟨x0, x1, x2, x3, x4, xz⟩ := HBQ2.out) | (go_at_call 39; refine (vright_is ⟨2, 0, 0, u, false⟩ _ true (hvr) (hul)).mono ?_; rintro e w4 ⟨rfl, hb4⟩; have HBP4 := Lib.hid ((HBP2.out.other hpq).below hb4); obtain ⟨x0, x1, x2, x3, x4, xz⟩ := (HBQ2.out.set3).below hb4; obtain ⟨u0, u1, u2, u3, u4, uz⟩ := HBP4.out) | fail)
        have hr4 := (rd_far (o := 3) (u := (.string ⟨u.toArray⟩)) hr2 (q := q) (by omega)).below hb4
        have hk4 := (rk_far (o := 3) (u := (.string ⟨u.toArray⟩)) (HK1.out.trans hk2) (q := q) (by omega)).trans (rk_below hb4)
        obtain ⟨hr5, hk5⟩ := rd_put5 (q := w.heap.size) hr4 hk4 hbw (Nat.le_refl _)
        obtain ⟨e0, e1, e2, e3, e4, _⟩ := set5_at w4 w.heap.size (.int .i64 2) (.int .i64 0) (.float .f64 0) (.string ⟨u.toArray⟩) (.bool false) (fun j hj => by match j, hj with | 0, _ => rw [u0]; rfl | 1, _ => rw [u1]; rfl | 2, _ => rw [u2]; rfl | 3, _ => rw [u3]; rfl | 4, _ => rw [u4]; rfl)
        refine bodyPost_ret (v := vv ⟨2, 0, 0, u, false⟩) (by simp [results, Tryz.results48, go_sem, e0, e1, e2, e3, e4]; try rfl) rfl ?_
        exact took_yes ⟨2, 0, 0, u, false⟩ r HD.out rfl hr5 hk5
    have n2 : (k == 2) = false := by rw [← hk, beq_eq_false_iff_ne]; intro e; exact c2 (UInt8.toNat_inj.1 (by show c.toNat = 2; omega))
    by_cases c3 : c = 3
    · obtain rfl : k = 3 := by rw [← hk, c3]; rfl
      cases hd : decByte t with
      | none =>
        have ht : t = [] := by cases t with | nil => rfl | cons x y => cases hd
        have HD := Lib.hid (show decVal (c :: t) = none from by rw [decVal_cons, if_neg c0, if_neg c1, if_neg c2, if_pos c3, ht])
        go_wp2_with (first | (go_at_call 31; refine (rbyte_any b t W1 HR1.out).mono ?_; rw [hd]; rintro e w2 h2; obtain ⟨rfl, hk2⟩ := took_none h2) | fail)
        exact ⟨rfl, took_no HD.out rfl (HK1.out.trans hk2)⟩
      | some pr =>
        obtain ⟨d, r⟩ := pr
        have ht : t = d :: r := by
          cases t with
          | nil => cases hd
          | cons x y => injection hd with hd; injection hd with e1 e2; rw [e1, e2]
        have hdv : decVal (c :: t) = if d.toNat ≤ 1 then some (⟨3, 0, 0, [], d == 1⟩, r) else none := by rw [decVal_cons, if_neg c0, if_neg c1, if_neg c2, if_pos c3, ht]
        by_cases hu : d.toNat ≤ 1
        rotate_left
        · have i1 : (1 : Int) < (d.toNat : Int) := by omega
          rw [if_neg hu] at hdv
          have HD := Lib.hid hdv; clear hdv
          go_wp2_with (first | (go_at_call 31; refine (rbyte_any b t W1 HR1.out).mono ?_; rw [hd]; rintro e w2 h2; obtain ⟨rfl, hr2, hk2⟩ := took_some h2; have HBP2 := Lib.hid (HBP.out.rk hk2 hpb); have HBQ2 := Lib.hid (HBQ.out.rk hk2 hqb); obtain ⟨x0, x1, x2, x3, x4, xz⟩ := HBQ2.out) | fail)
          exact ⟨rfl, took_no HD.out rfl (HK1.out.trans hk2)⟩
        have i1 : ¬ (1 : Int) < (d.toNat : Int) := by omega
        obtain ⟨Y, hY⟩ : ∃ Y, (d == 1) = Y := ⟨_, rfl⟩
        have hY2 : ((d.toNat : Int) == 1) = Y := by
          rw [← hY, Bool.eq_iff_iff, beq_iff_eq, beq_iff_eq]
          constructor
          · intro e; exact UInt8.toNat_inj.1 (by show d.toNat = 1; omega)
          · intro e; rw [e]; rfl
        rw [if_pos hu, hY] at hdv
        have HD := Lib.hid hdv; clear hdv
        go_wp2_with (first | (go_at_call 31; refine (rbyte_any b t W1 HR1.out).mono ?_; rw [hd]; rintro e w2 h2; obtain ⟨rfl, hr2, hk2⟩ := took_some h2; have HBP2 := Lib.hid (HBP.out.rk hk2 hpb); have HBQ2 := Lib.hid (HBQ.out.rk hk2 hqb); obtain ⟨x0, x1, x2, x3, x4, xz⟩ := HBQ2.out) | (go_at_call 39; refine (vright_is ⟨3, 0, 0, [], Y⟩ _ true (rfl) (by simp)).mono ?_; rintro e w4 ⟨rfl, hb4⟩; have HBP4 := Lib.hid ((HBP2.out.other hpq).below hb4); obtain ⟨x0, x1, x2, x3, x4, xz⟩ := (HBQ2.out.set4).below hb4; obtain ⟨u0, u1, u2, u3, u4, uz⟩ := HBP4.out) | fail)
        have hr4 := (rd_far (o := 4) (u := (.bool Y)) hr2 (q := q) (by omega)).below hb4
        have hk4 := (rk_far (o := 4) (u := (.bool Y)) (HK1.out.trans hk2) (q := q) (by omega)).trans (rk_below hb4)
        obtain ⟨hr5, hk5⟩ := rd_put5 (q := w.heap.size) hr4 hk4 hbw (Nat.le_refl _)
        obtain ⟨e0, e1, e2, e3, e4, _⟩ := set5_at w4 w.heap.size (.int .i64 3) (.int .i64 0) (.float .f64 0) (.string ⟨#[]⟩) (.bool Y) (fun j hj => by match j, hj with | 0, _ => rw [u0]; rfl | 1, _ => rw [u1]; rfl | 2, _ => rw [u2]; rfl | 3, _ => rw [u3]; rfl | 4, _ => rw [u4]; rfl)
        refine bodyPost_ret (v := vv ⟨3, 0, 0, [], Y⟩) (by simp [results, Tryz.results48, go_sem, e0, e1, e2, e3, e4]; try rfl) rfl ?_
        exact took_yes ⟨3, 0, 0, [], Y⟩ r HD.out rfl hr5 hk5
    · have n3 : (k == 3) = false := by rw [← hk, beq_eq_false_iff_ne]; intro e; exact c3 (UInt8.toNat_inj.1 (by show c.toNat = 3; omega))
      have HD := Lib.hid (show decVal (c :: t) = none from by rw [decVal_cons, if_neg c0, if_neg c1, if_neg c2, if_neg c3])
      go_wp2_with fail
      exact ⟨rfl, took_no HD.out rfl HK1.out⟩
end Go.Proofs.YtpbdgbejcdncgaaGreatDoor.Wire
end
