/- A WRITER OF BYTES: Text, Long, Bytes. -/
import Derived.Test.YtpbdgbejcdncgaaWr
import Derived.Lib.AppendStr
namespace Go.Proofs.Ytpbdgbejcdncgaa.Wire
open Go.RowKit Flt Go.Proofs.Ytpbdgbejcdncgaa.Val Go.Lib
/-- where the new row lies behind an append of a text -/
theorem str_lies {P : Program} (w : World) (base : Nat) (t u ty e : TypeId) (i : TypeInfo) (ht : P.underlying t = some (.slice e)) (hu : P.underlying u = some .string) (hi : P.info? e = some i) (hz : i.zero = some (.int .u8 0))
    (hsize : i.size = 1) (hby : i.bytes = 1) (v : Value) (n : Nat) (xs : List Value) (hown : w.ownsRow base e 1 v n xs) (s : ByteArray)
    (h63 : n + s.size ≤ 1000000) {v' : Value} {w' : World} (hr : (Builtin.append_ #[t, u] ty #[v, .string s]).run P w = .ok v' w') (hnil : v' = .slice none 0 0 ↔ v = .slice none 0 0 ∧ s.size = 0) :
    v'.ownBlock = v.ownBlock ∨ ∃ k, v'.ownBlock = some k ∧ w.heap.size ≤ k := by
  rcases hown.2 with ⟨rfl, rfl⟩ | ⟨g, cap, cur, rfl, hbg, hg, hnc, hcm, hcs, htake⟩
  · by_cases hm : s.size = 0
    · have := hnil.2 ⟨rfl, hm⟩
      subst this
      exact .inl rfl
    · have hr2 := run_append_nil_string (P := P) w t u ty e i (.int .u8 0) ht hu hi hz s (by omega) (by omega) (by rw [hby]; omega)
      rw [hr] at hr2
      injection hr2 with e1 _
      subst e1
      exact .inr ⟨_, rfl, Nat.le_refl _⟩
  · have hcs' : cur.size = cap := by simpa using hcs
    by_cases hroom : n + s.size ≤ cap
    · have hr2 := run_append_room_string (P := P) w t u ty e i ht hu hi hsize g n cap cur hg s hroom (by omega)
      rw [hr] at hr2
      injection hr2 with e1 _
      subst e1
      exact .inl rfl
    · have holds : ∀ j u, xs[j]? = some u → w.cell? ((⟨g, 0, none⟩ : Addr).add j) = some u := hown.cells (g := g) rfl
      have hxl : xs.length = n := by simpa using hown.1
      have hr2 := run_append_grow_string (P := P) w t u ty e i (.int .u8 0) ht hu hi hz ⟨g, 0, none⟩ n cap xs (by rw [hsize]; simpa using hxl) holds s (by omega) (by omega) (by rw [hby]; exact growslice_fits (by omega) (by omega))
      rw [hr] at hr2
      injection hr2 with e1 _
      subst e1
      exact .inr ⟨_, rfl, Nat.le_refl _⟩
theorem wpList_str_lies {P : Program} {w : World} {ops : Array Oper} {rest : List Oper} {o : Oper} {a : Act} {Q : Exit → Act → World → Prop} (hgd : o.guard = none) (sl x : Operand) (t u : TypeId)
    (ho : o.op = .call { callee := .builtin .append, args := #[sl, x], argTypes := #[t, u] })
    (base : Nat) (e : TypeId) (i : TypeInfo) (ht : P.underlying t = some (.slice e)) (hu : P.underlying u = some .string) (hi : P.info? e = some i) (hz : i.zero = some (.int .u8 0))
    (hsize : i.size = 1) (hby : i.bytes = 1)
    (v : Value) (n : Nat) (xs : List Value) (hs : a.eval sl = v) (hown : w.ownsRow base e 1 v n xs) (s : ByteArray) (hx : a.eval x = .string s)
    (h63 : n + s.size ≤ 1000000) (hbase : base ≤ w.heap.size)
    (h : ∀ c1 cn cc w', w'.ownsRow base e 1 (.slice c1 cn cc) (n + s.size) (xs ++ strCells s) → w.grownBy w' v.ownBlock → ((Value.slice c1 cn cc).ownBlock = v.ownBlock ∨ ∃ k, (Value.slice c1 cn cc).ownBlock = some k ∧ w.heap.size ≤ k) → wpList P ops Q rest (a.put o.dst (.slice c1 cn cc)) w') : wpList P ops Q (o :: rest) a w := by
  refine wpList_plain hgd fun K hK => ?_
  obtain ⟨v', w', hr, h2, h3, h4⟩ := run_append_own_string (P := P) w base t u o.type e i ht hu hi hz hsize hby v n xs hown s (by unfold maxLen; omega) (by omega) hbase
  have h5 := str_lies w base t u o.type e i ht hu hi hz hsize hby v n xs hown s h63 hr h4
  obtain ⟨c1, cn, cc, rfl⟩ : ∃ c1 cn cc, v' = .slice c1 cn cc := by
    rcases h2.2 with ⟨rfl, _⟩ | ⟨g, cap, cur, rfl, _⟩
    · exact ⟨_, _, _, rfl⟩
    · exact ⟨_, _, _, rfl⟩
  unfold Oper.wp execOp
  simp only [ho, resolve, invoke, builtin, Sem.run_bind, Sem.run_pure, Result.andThen_ok, List.map_toArray, List.map_cons, List.map_nil, hs, hx, hr]
  exact hK _ _ (h c1 cn cc w' h2 h3 h5)
/-- one number -/
theorem wbyte_one (b : Nat) (s : List UInt8) (n : Int) (w : World) {T : TypeId} (h : Wr w b s) (hl : s.length + 1 ≤ 1000000) :
    Calls Try.prog 29 #[.pointer (some ⟨b, 0, none⟩), .slice (some ⟨w.heap.size, 0, none⟩) 1 1] (w.alloc (.cells #[.int .i64 n] T)) fun e w' => e = .returned (.pointer (some ⟨b, 0, none⟩)) ∧ Wr w' b (s ++ [byteOf n]) ∧ Wrote b w w' := by
  refine (wbyte_any b s ⟨w.heap.size, 0, none⟩ [n] 1 _ (h.below (balloc _ _)) (h.free_new (balloc _ _) (Nat.le_refl _) (by simp)) (fun i hi => ?_) hl).mono ?_
  · have : i = 0 := by simpa using hi
    subst this
    exact World.cell?_alloc_at _ _ _ _ rfl
  · rintro e w' ⟨rfl, h1, h2⟩
    exact ⟨rfl, h1, (wrote_below h.lt (balloc _ _)).trans h2⟩
theorem str_u8s (t : List UInt8) : strCells ⟨t.toArray⟩ = u8s t := by simp [strCells, u8s]
set_option maxRecDepth 20000 in
set_option maxHeartbeats 4000000 in
theorem wtext_any (b : Nat) (s t : List UInt8) (w : World) (h : Wr w b s) (hl : s.length + t.length + 1 ≤ 1000000) :
    Calls Try.prog 31 #[.pointer (some ⟨b, 0, none⟩), .string ⟨t.toArray⟩] w fun e w' => e = .returned (.pointer (some ⟨b, 0, none⟩)) ∧ Wr w' b (s ++ encText t) ∧ Wrote b w w' := by
  obtain ⟨i0, hi, hz0, hz1, hz2⟩ := info_parts info_u8W
  have hb := fun T => wbyte_one (T := T) b s t.length w h (by omega)
  have HB := Lib.hid hb; clear hb h
  have hsz : (⟨t.toArray⟩ : ByteArray).size = t.length := by show t.toArray.size = _; simp
  have HSZ := Lib.hid hsz; clear hsz
  go_enter Try.func31, Try.ntmps31
  go_wp2_with (first | (go_at_call 29; refine (HB.out _).mono ?_; rintro e w1 ⟨rfl, ⟨v, hat⟩, hwt⟩; have c1 := hat.cb; have z1 := hat.fz; have HAT := Lib.hid hat; have HWT := Lib.hid hwt; clear hat hwt) | (at_builtin; refine wpList_str_lies rfl _ _ 22 9 rfl (b + 1) 5 i0 Try.underlying22 Try.underlying9 hi hz0 hz1 hz2 v _ _ rfl HAT.out.own ⟨t.toArray⟩ rfl (by rw [HSZ.out]; simp; omega) (Nat.succ_le_of_lt (World.block_lt_of_cell? _ _ HAT.out.cb)) ?_; intro x1 xn xc w5 hown hgrow hob; have HPUT := Lib.hid (wr_put (x := t) HAT.out (by rw [HSZ.out, str_u8s] at hown; exact hown) hgrow hob); obtain ⟨c5, z5⟩ := put_cells0 HAT.out hgrow; clear hown hgrow hob) | fail)
  go_ret
  refine ⟨rfl, ?_, HWT.out.trans HPUT.out.2⟩
  have := HPUT.out.1
  rw [List.append_assoc] at this
  exact this
end Go.Proofs.Ytpbdgbejcdncgaa.Wire
