/- THE WALK OF event.Without. -/
import Derived.Test.YtdggofleokjmcaaGreatDoorAttr
import Derived.Laws.AppendOwn
namespace Go.Proofs.YtdggofleokjmcaaGreatDoor.Val
open Go.RowKit Flt
def cells6 (a : A) : List Value := [.string ⟨a.name.toArray⟩, .int .i64 a.val.kind, .int .i64 a.val.int, .float .f64 a.val.num, .string ⟨a.val.text.toArray⟩, .bool a.val.yes]
def flatA (l : List A) : List Value := l.flatMap cells6
theorem flatA_len (l : List A) : (flatA l).length = l.length * 6 := by
  induction l with
  | nil => rfl
  | cons v l ih => unfold flatA at *; rw [List.flatMap_cons, List.length_append, ih]; simp [cells6]; omega
theorem flatA_at : ∀ (l : List A) (i j : Nat) (hi : i < l.length), j < 6 → (flatA l)[i * 6 + j]? = (cells6 l[i])[j]?
  | v :: l, 0, j, _, hj => by
    unfold flatA; rw [List.flatMap_cons, List.getElem?_append_left (by simp [cells6]; omega)]; simp
  | v :: l, i + 1, j, hi, hj => by
    unfold flatA; rw [List.flatMap_cons, List.getElem?_append_right (by simp [cells6]; omega)]
    have e : (i + 1) * 6 + j - (cells6 v).length = i * 6 + j := by simp [cells6]; omega
    rw [e]
    exact flatA_at l i j (by simpa using hi) hj
theorem flatA_one (l : List A) : ∀ u ∈ flatA l, u.oneCell' = true := by
  intro u hu
  obtain ⟨v, _, hv⟩ := List.mem_flatMap.1 hu
  simp only [cells6, List.mem_cons, List.not_mem_nil, or_false] at hv
  rcases hv with rfl | rfl | rfl | rfl | rfl | rfl <;> rfl
theorem flatA_app (l : List A) (a : A) : flatA (l ++ [a]) = flatA l ++ flatA [a] := by simp [flatA]
theorem info_attr : (Tryz.prog.info? 32).map (fun i => (i.zero, i.size, i.bytes)) = some (some (.agg #[.string .empty, .int .i64 0, .int .i64 0, .float .f64 0, .string .empty, .bool false]), 6, 64) := by kernel_rfl
theorem liesA {w : World} {g : Nat} {l : List A} (h : ∀ j u, (flatA l)[j]? = some u → w.cell? ((⟨g, 0, none⟩ : Addr).add j) = some u) : Attrs w (some ⟨g, 0, none⟩) l := by
  intro i hi
  refine ⟨_, rfl, ?_⟩
  have k : ∀ j (hj : j < 6), w.cell? (((⟨g, 0, none⟩ : Addr).add (i * 6)).add j) = (cells6 l[i])[j]? := by
    intro j hj
    rw [Deep.add_add]
    have : (flatA l)[i * 6 + j]? = some ((cells6 l[i])[j]'(by simpa [cells6] using hj)) := by rw [flatA_at l i j hi hj]; simp
    rw [h _ _ this]; simp
  exact ⟨k 0 (by decide), k 1 (by decide), k 2 (by decide), k 3 (by decide), k 4 (by decide), k 5 (by decide)⟩
/-- what the call's own row holds, as attributes; nil too -/
theorem own_attrs {w : World} {e : TypeId} {v : Value} {l : List A} {base : Nat} (h : w.ownsRow base e 6 v l.length (flatA l)) :
    ∃ a0 cap, v = .slice a0 l.length cap ∧ Attrs w a0 l := by
  rcases h.2 with ⟨rfl, h0⟩ | ⟨g, cp, cur, rfl, hb, _⟩
  · have : l = [] := List.eq_nil_of_length_eq_zero h0
    subst this
    exact ⟨none, 0, rfl, fun i hi => absurd hi (Nat.not_lt_zero _)⟩
  · exact ⟨some ⟨g, 0, none⟩, cp, rfl, liesA (h.cells rfl)⟩
/-- the names that go, as they lie -/
def Names (w : World) (b off : Nat) (zs : List ByteArray) : Prop := ∀ j, j < zs.length → w.cell? ⟨b, off + j, none⟩ = some (.string (zs.getD j ByteArray.empty))
theorem Names.below {w w2 : World} {b off : Nat} {zs : List ByteArray} (h : Names w b off zs) (hb : Below w.heap.size w w2) : Names w2 b off zs := fun j hj => by
  have h1 := h j hj
  exact (hb.cell (World.block_lt_of_cell? _ _ h1)).trans h1
/-- a slice of names, empty or nil too -/
def NamesO (w : World) (o : Option Addr) (zs : List ByteArray) : Prop := zs = [] ∨ ∃ b off, o = some ⟨b, off, none⟩ ∧ Names w b off zs
theorem NamesO.below {w w2 : World} {o : Option Addr} {zs : List ByteArray} (h : NamesO w o zs) (hb : Below w.heap.size w w2) : NamesO w2 o zs := by
  rcases h with h | ⟨b, off, e, h⟩
  · exact Or.inl h
  · exact Or.inr ⟨b, off, e, h.below hb⟩
theorem contains_o (o : Option Addr) (c : Nat) (zs : List ByteArray) (x : ByteArray) (w : World) (h : NamesO w o zs) (hl : zs.length ≤ 1000000) :
    Calls Tryz.prog 54 #[.slice o zs.length c, .string x] w fun e w' => e = .returned (.bool (Lib.containsS zs x)) ∧ w = w' := by
  rcases h with rfl | ⟨b, off, rfl, h⟩
  · refine (Tryz.slices_Contains_string_empty o c x w).mono ?_
    rintro e w' ⟨rfl, rfl⟩
    refine ⟨?_, rfl⟩
    have : Lib.containsS [] x = false := by rw [Bool.eq_false_iff]; intro hc; have := (Lib.containsS_iff _ _).1 hc; cases this
    rw [this]
  · refine (Tryz.slices_Contains_string b off zs.length c zs x w (Nat.le_refl _) (by omega) h).mono ?_
    rintro e w' ⟨rfl, rfl⟩
    rw [List.take_length]; exact ⟨rfl, rfl⟩
def keepB (zs : List ByteArray) (l : List A) : List A := l.filter fun a => !Lib.containsS zs ⟨a.name.toArray⟩
theorem keep_succ (zs : List ByteArray) (l : List A) (k : Nat) (h : k < l.length) : keepB zs (l.take (k + 1)) = keepB zs (l.take k) ++ (if Lib.containsS zs ⟨l[k].name.toArray⟩ then [] else [l[k]]) := by
  unfold keepB
  rw [List.take_succ_eq_append_getElem h, List.filter_append]
  cases hc : Lib.containsS zs ⟨l[k].name.toArray⟩ <;> simp [hc]
theorem new_attr (w : World) (a : A) (e : TypeId) : ∀ j u, (flatA [a])[j]? = some u → (w.alloc (.cells #[.string ⟨a.name.toArray⟩, .int .i64 a.val.kind, .int .i64 a.val.int, .float .f64 a.val.num, .string ⟨a.val.text.toArray⟩, .bool a.val.yes] e)).cell? ((⟨w.heap.size, 0, none⟩ : Addr).add j) = some u := by
  intro j u hj
  have hadd : (⟨w.heap.size, 0, none⟩ : Addr).add j = ⟨w.heap.size, j, none⟩ := by unfold Addr.add; split <;> simp_all
  rw [hadd]
  simpa [flatA, cells6, go_sem] using hj
theorem new_attr2 (w : World) (g : Nat) (hg : g = w.heap.size) (a : A) (e : TypeId) : ∀ j u, (flatA [a])[j]? = some u → (w.alloc (.cells #[.string ⟨a.name.toArray⟩, .int .i64 a.val.kind, .int .i64 a.val.int, .float .f64 a.val.num, .string ⟨a.val.text.toArray⟩, .bool a.val.yes] e)).cell? ((⟨g, 0, none⟩ : Addr).add j) = some u := by
  subst hg; exact new_attr w a e
theorem keep_blk {wr w1 w3 : World} {base : Nat} {e : TypeId} {v : Value} {n : Nat} {xs : List Value} (hown : wr.ownsRow base e 6 v n xs) (hg : w1.grownBy w3 v.ownBlock) {p : Nat} (hp : p < base) (hp2 : p < w1.heap.size) : w3.heap[p]? = w1.heap[p]? :=
  hg.block p hp2 (fun h => by have := (hown.lt p h.symm).1; omega)
theorem keep_len (zs : List ByteArray) (l : List A) (k : Nat) : (keepB zs (l.take k)).length ≤ l.length :=
  Nat.le_trans (List.length_filter_le _ _) (by rw [List.length_take]; omega)
attribute [local go_sem] run_store_flt
set_option maxRecDepth 20000 in
set_option maxHeartbeats 4000000 in
theorem without_o (sc : List UInt8) (a0 : Option Addr) (cap : Nat) (l : List A) (o : Option Addr) (c : Nat) (zs : List ByteArray) (w : World) (hl : Attrs w a0 l) (hlm : l.length ≤ 1000000) (hz : NamesO w o zs) (hzl : zs.length ≤ 1000000) :
    Calls Tryz.prog 25 #[ev sc a0 l.length cap, .slice o zs.length c] w fun e w' =>
      ∃ b0 cp, e = .returned (ev sc b0 (keepB zs l).length cp) ∧ Attrs w' b0 (keepB zs l) ∧ w'.ownsRow w.heap.size 32 6 (.slice b0 (keepB zs l).length cp) (keepB zs l).length (flatA (keepB zs l)) ∧ Below w.heap.size w w' := by
  have HL := Lib.hid hl; have HZ := Lib.hid hz; clear hl hz
  obtain ⟨i0, hi, hz0, hz1, hz2⟩ := info_parts info_attr
  go_enter Tryz.func25, Tryz.ntmps25
  go_wp2_with fail
  go_loopw [14] (fun vi wr => ∃ (kk : Nat) (v : Value), kk ≤ l.length ∧ vi = .int .i64 kk ∧ wr.cell? ⟨w.heap.size + 1 + 1, 0, none⟩ = some (.string ⟨sc.toArray⟩) ∧ wr.cell? ⟨w.heap.size + 1 + 1, 1, none⟩ = some v ∧ wr.frozen? ⟨w.heap.size + 1 + 1, 1, none⟩ = false ∧
    (wr.cell? ⟨w.heap.size + 1, 0, none⟩).isSome = true ∧ (wr.cell? ⟨w.heap.size + 1, 1, none⟩).isSome = true ∧ wr.frozen? ⟨w.heap.size + 1, 0, none⟩ = false ∧ wr.frozen? ⟨w.heap.size + 1, 1, none⟩ = false ∧
    wr.ownsRow (w.heap.size + 3) 32 6 v (keepB zs (l.take kk)).length (flatA (keepB zs (l.take kk))) ∧ w.heap.size + 3 ≤ wr.heap.size ∧ Below w.heap.size w wr) (fun vi _ => l.length - (intOf vi).toNat)
  case atStart => refine ⟨0, .slice none 0 0, Nat.zero_le _, rfl, ?_, ?_, ?_, ?_, ?_, ?_, ?_, World.ownsRow_nil _ _ _ _, ?_, by repeat (first | assumption | (with_reducible exact Below.refl _ _) | exact balloc _ _ | exact balloc2 _ _ _ | refine btrans ?_ (by assumption) | refine btrans ?_ (balloc _ _))⟩ <;> simp [go_sem]
  case round =>
    obtain ⟨kk, v, hk, rfl, o0, o1, ofz, r0, r1, rf0, rf1, hown, hsz, hbr⟩ := hrel
    by_cases hlt : kk < l.length
    · have i1 : (kk : Int) < (l.length : Int) := by omega
      have i0' : (0 : Int) ≤ (kk : Int) := by omega
      have hks := keep_succ zs l kk hlt
      obtain ⟨a, rfl, v0, v1, v2, v3, v4, v5⟩ := (HL.out.below hbr) kk hlt
      have HKS := Lib.hid hks; have OWN := Lib.hid hown; clear hks hown
      have hne : w.heap.size + 1 + 1 < wr.heap.size := by omega
      cases hcs : Lib.containsS zs ⟨l[kk].name.toArray⟩
      · have hkl := keep_len zs l kk
        go_wp2_with (first
          | (go_at_call 54; refine (contains_o o c zs _ _ ((HZ.out.below hbr).below (balloc _ _)) hzl).mono ?_; rintro e w3 ⟨rfl, rfl⟩; rw [hcs])
          | (at_builtin; refine wpList_append_own _ rfl _ _ 22 rfl (w.heap.size + 3) 32 i0 (.agg #[.string .empty, .int .i64 0, .int .i64 0, .float .f64 0, .string .empty, .bool false]) 6 64 Tryz.underlying22 hi hz0 hz1 hz2 rfl (by decide) v _ _ rfl ((OWN.out.alloc _).alloc _) ⟨wr.heap.size + 1, 0, none⟩ 1 1 (flatA [l[kk]]) rfl rfl ?news (flatA_one _) (by unfold maxLen; omega) (by omega) (by simp; omega) ?_; rotate_left; (case news => exact new_attr2 (wr.alloc _) (wr.heap.size + 1) (by simp) l[kk] _); intro v' w4 hown' hgrow3 hnil3; have hg1 := keep_blk OWN.out hgrow3 (p := w.heap.size + 1 + 1) (by omega) (by simp; omega); have hg2 := keep_blk OWN.out hgrow3 (p := w.heap.size + 1) (by omega) (by simp; omega); obtain ⟨hc2, hf2⟩ := bcell (balloc2 wr (.cells #[.string ⟨l[kk].name.toArray⟩, .int .i64 l[kk].val.kind, .int .i64 l[kk].val.int, .float .f64 l[kk].val.num, .string ⟨l[kk].val.text.toArray⟩, .bool l[kk].val.yes] 32) (.cells #[.string ⟨l[kk].name.toArray⟩, .int .i64 l[kk].val.kind, .int .i64 l[kk].val.int, .float .f64 l[kk].val.num, .string ⟨l[kk].val.text.toArray⟩, .bool l[kk].val.yes] 32)); have p0 := (World.cell?_of_block (a := ⟨w.heap.size + 1 + 1, 0, none⟩) hg1).trans ((hc2 _ _ hne).trans o0); have p1 := (World.cell?_of_block (a := ⟨w.heap.size + 1 + 1, 1, none⟩) hg1).trans ((hc2 _ _ hne).trans o1); have pfz := (World.frozen?_of_block (a := ⟨w.heap.size + 1 + 1, 1, none⟩) hg1).trans ((hf2 _ _ hne).trans ofz); have q0 := (congrArg Option.isSome ((World.cell?_of_block (a := ⟨w.heap.size + 1, 0, none⟩) hg2).trans (hc2 _ _ (by omega)))).trans r0; have q1 := (congrArg Option.isSome ((World.cell?_of_block (a := ⟨w.heap.size + 1, 1, none⟩) hg2).trans (hc2 _ _ (by omega)))).trans r1; have qf0 := (World.frozen?_of_block (a := ⟨w.heap.size + 1, 0, none⟩) hg2).trans ((hf2 _ _ (by omega)).trans rf0); have qf1 := (World.frozen?_of_block (a := ⟨w.heap.size + 1, 1, none⟩) hg2).trans ((hf2 _ _ (by omega)).trans rf1); have hb4 : Below w.heap.size w w4 := Below.grown (btrans hbr (balloc2 _ _ _)) hgrow3 (Nat.le_trans hbr.size (balloc2 wr _ _).size) (fun k hk => Nat.le_trans (by omega) (OWN.out.lt k hk).1); have hsz4 : w.heap.size + 3 ≤ w4.heap.size := Nat.le_trans hsz (Nat.le_trans (balloc2 wr _ _).size hgrow3.size); have hown2 : w4.ownsRow (w.heap.size + 3) 32 6 v' (keepB zs (l.take kk) ++ [l[kk]]).length (flatA (keepB zs (l.take kk) ++ [l[kk]])) := (by rw [flatA_app, List.length_append]; exact hown'); obtain ⟨b0, cp, rfl, hat4⟩ := own_attrs hown2; have OWN4 := Lib.hid hown2; clear hat4 hown2 hc2 hf2 hg1 hg2 hown' hgrow3 hnil3 o0 o1 ofz r0 r1 rf0 rf1 v0 v1 v2 v3 v4 v5))
        refine ⟨⟨kk + 1, _, by omega, by go_num, (World.cell?_setCell_other _ _ _ _ (by simp)).trans p0, World.cell?_setCell_same _ _ _ p1, by rw [World.frozen?_setCell]; exact pfz, (congrArg Option.isSome (World.cell?_setCell_other _ _ _ _ (by simp))).trans q0, (congrArg Option.isSome (World.cell?_setCell_other _ _ _ _ (by simp))).trans q1, by rw [World.frozen?_setCell]; exact qf0, by rw [World.frozen?_setCell]; exact qf1, ?_, by simpa [World.setCell] using hsz4, hb4.setCell (by simp; omega) _⟩, by simp [intOf]; go_num⟩
        have e : keepB zs (l.take (kk + 1)) = keepB zs (l.take kk) ++ [l[kk]] := by rw [HKS.out, hcs]; simp
        rw [e]
        have el : (keepB zs (l.take kk) ++ [l[kk]]).length = (keepB zs (l.take kk)).length + 1 := by simp
        have o4 := OWN4.out
        rw [el] at o4 ⊢
        exact ownsRow_setCell_below (a := ⟨w.heap.size + 1 + 1, 1, none⟩) o4 (by show w.heap.size + 1 + 1 < w.heap.size + 3; omega) _
      · go_wp2_with (go_at_call 54; refine (contains_o o c zs _ _ ((HZ.out.below hbr).below (balloc _ _)) hzl).mono ?_; rintro e w3 ⟨rfl, rfl⟩; rw [hcs])
        have hb2 := balloc wr (.cells (cells6 l[kk]).toArray 32)
        obtain ⟨hc2, hf2⟩ := bcell hb2
        refine ⟨⟨kk + 1, v, by omega, by go_num, (hc2 _ _ hne).trans o0, (hc2 _ _ hne).trans o1, (hf2 _ _ hne).trans ofz, (congrArg Option.isSome (hc2 _ _ (by omega))).trans r0, (congrArg Option.isSome (hc2 _ _ (by omega))).trans r1, (hf2 _ _ (by omega)).trans rf0, (hf2 _ _ (by omega)).trans rf1, ?_, by simp; omega, btrans hbr hb2⟩, by simp [intOf]; go_num⟩
        have e : keepB zs (l.take (kk + 1)) = keepB zs (l.take kk) := by rw [HKS.out, hcs]; simp
        rw [e]
        exact OWN.out.alloc _
    · have i1 : ¬ (kk : Int) < (l.length : Int) := by omega
      obtain rfl : kk = l.length := by omega
      rw [List.take_length] at hown
      obtain ⟨b0, cp, rfl, hat⟩ := own_attrs hown
      have OWN := Lib.hid hown; have HAT := Lib.hid hat; clear hown hat
      obtain ⟨u0, hu0⟩ := Option.isSome_iff_exists.1 r0
      obtain ⟨u1, hu1⟩ := Option.isSome_iff_exists.1 r1
      clear r0 r1
      go_wp2
      have e0 : ((wr.setCell ⟨w.heap.size + 1, 0, none⟩ (.string ⟨sc.toArray⟩)).setCell ⟨w.heap.size + 1, 1, none⟩ (.slice b0 (keepB zs l).length cp)).cell? ⟨w.heap.size + 1, 0, none⟩ = some (.string ⟨sc.toArray⟩) := (World.cell?_setCell_other _ _ _ _ (by simp)).trans (World.cell?_setCell_same _ _ _ hu0)
      have e1 : ((wr.setCell ⟨w.heap.size + 1, 0, none⟩ (.string ⟨sc.toArray⟩)).setCell ⟨w.heap.size + 1, 1, none⟩ (.slice b0 (keepB zs l).length cp)).cell? ⟨w.heap.size + 1, 1, none⟩ = some (.slice b0 (keepB zs l).length cp) := World.cell?_setCell_same _ _ _ ((World.cell?_setCell_other _ _ _ _ (by simp)).trans hu1)
      have ow := ownsRow_setCell_below (a := ⟨w.heap.size + 1, 1, none⟩) (ownsRow_setCell_below (a := ⟨w.heap.size + 1, 0, none⟩) OWN.out (by show w.heap.size + 1 < w.heap.size + 3; omega) (.string ⟨sc.toArray⟩)) (by show w.heap.size + 1 < w.heap.size + 3; omega) (.slice b0 (keepB zs l).length cp)
      have hbb := (hbr.setCell (p := ⟨w.heap.size + 1, 0, none⟩) (by simp) (.string ⟨sc.toArray⟩)).setCell (p := ⟨w.heap.size + 1, 1, none⟩) (by simp) (.slice b0 (keepB zs l).length cp)
      generalize World.setCell _ _ _ = W2 at *
      refine bodyPost_ret (v := ev sc b0 (keepB zs l).length cp) (by simp [results, Tryz.results25, go_sem, e0, e1]; try rfl) rfl ?_
      obtain ⟨b1, cp1, he, hat2⟩ := own_attrs ow
      cases he
      refine ⟨b0, cp, rfl, hat2, ?_, hbb⟩
      exact ⟨ow.1, ow.2.imp id (fun ⟨g, c, cur, h1, h2, h3⟩ => ⟨g, c, cur, h1, by omega, h3⟩)⟩
theorem without_any (sc : List UInt8) (a0 : Option Addr) (cap : Nat) (l : List A) (b off c : Nat) (zs : List ByteArray) (w : World) (hl : Attrs w a0 l) (hlm : l.length ≤ 1000000) (hz : Names w b off zs) (hzl : zs.length ≤ 1000000) :
    Calls Tryz.prog 25 #[ev sc a0 l.length cap, .slice (some ⟨b, off, none⟩) zs.length c] w fun e w' =>
      ∃ b0 cp, e = .returned (ev sc b0 (keepB zs l).length cp) ∧ Attrs w' b0 (keepB zs l) ∧ w'.ownsRow w.heap.size 32 6 (.slice b0 (keepB zs l).length cp) (keepB zs l).length (flatA (keepB zs l)) ∧ Below w.heap.size w w' :=
  without_o sc a0 cap l _ c zs w hl hlm (Or.inr ⟨b, off, rfl, hz⟩) hzl
end Go.Proofs.YtdggofleokjmcaaGreatDoor.Val
