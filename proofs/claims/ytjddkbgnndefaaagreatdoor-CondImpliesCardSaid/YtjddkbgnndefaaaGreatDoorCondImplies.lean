/- The statement CondImplies is proved: one condition implies another one by the rules of the document; whatever value the one holds for, the other one does. -/
import Derived.Test.YtjddkbgnndefaaaGreatDoorFrameC
import Derived.Test.YtjddkbgnndefaaaGreatDoorOpenS
import Derived.Test.YtjddkbgnndefaaaGreatDoorLaid
import Derived.Test.YtjddkbgnndefaaaGreatDoorRefImp2
import Derived.Test.YtjddkbgnndefaaaGreatDoorCondFit
import Derived.Laws.AppendOwn
import Derived.Laws.AppendOwnNone
namespace Go.Proofs.YtjddkbgnndefaaaGreatDoor.Val
open Go.RowKit Go.ChangeShapes Go.WideShapes Go.ChangeAt Flt
theorem words_ofImplies {W : World} (h : laidMetH Tryz.prog Rows.condImpliesRow.laid W) : Words W := fun i hi =>
  Laid.strs (name := "gazette/cond.words") (zs := [[61], [33, 61], [60], [60, 61], [62], [62, 61], [94], [104, 97, 115]]) (by kernel_rfl) (by kernel_rfl) (by kernel_rfl) Tryz.underlying63 Tryz.underlying9 (by kernel_rfl) (by kernel_rfl) (by kernel_rfl) h i hi
theorem cright_op {c : C} (h : cRight c = true) : 0 ≤ c.op ∧ c.op ≤ 7 := by
  unfold cRight at h; simp at h; exact ⟨h.1.1.2, h.1.2⟩
/-- a value's cells -/
def cells5 (v : V) : List Value := [.int .i64 v.kind, .int .i64 v.int, .float .f64 v.num, .string ⟨v.text.toArray⟩, .bool v.yes]
def flat (l : List V) : List Value := l.flatMap cells5
theorem flat_len (l : List V) : (flat l).length = l.length * 5 := by
  induction l with
  | nil => rfl
  | cons v l ih => unfold flat at *; rw [List.flatMap_cons, List.length_append, ih]; simp [cells5]; omega
theorem flat_at : ∀ (l : List V) (i j : Nat) (hi : i < l.length), j < 5 → (flat l)[i * 5 + j]? = (cells5 l[i])[j]?
  | v :: l, 0, j, _, hj => by
    unfold flat; rw [List.flatMap_cons, List.getElem?_append_left (by simp [cells5]; omega)]; simp
  | v :: l, i + 1, j, hi, hj => by
    unfold flat; rw [List.flatMap_cons, List.getElem?_append_right (by simp [cells5]; omega)]
    have e : (i + 1) * 5 + j - (cells5 v).length = i * 5 + j := by simp [cells5]; omega
    rw [e]
    exact flat_at l i j (by simpa using hi) hj
theorem flat_one (l : List V) : ∀ u ∈ flat l, u.oneCell' = true := by
  intro u hu
  obtain ⟨v, _, hv⟩ := List.mem_flatMap.1 hu
  simp only [cells5, List.mem_cons, List.not_mem_nil, or_false] at hv
  rcases hv with rfl | rfl | rfl | rfl | rfl <;> rfl
theorem flat_lies {w : World} {a : Addr} {l : List V} (h : ∀ i (h : i < l.length), Open.VAt w (a.add (i * 5)) l[i]) : ∀ j u, (flat l)[j]? = some u → w.cell? (a.add j) = some u := by
  intro j u hj
  have hjl : j < l.length * 5 := by rw [← flat_len]; exact (List.getElem?_eq_some_iff.1 hj).1
  have hi : j / 5 < l.length := by omega
  have e : j = j / 5 * 5 + j % 5 := by omega
  rw [e, flat_at l (j / 5) (j % 5) hi (Nat.mod_lt _ (by decide))] at hj
  obtain ⟨h0, h1, h2, h3, h4⟩ := h (j / 5) hi
  have hm : j % 5 < 5 := Nat.mod_lt _ (by decide)
  have ea : a.add j = (a.add (j / 5 * 5)).add (j % 5) := by rw [Deep.add_add, ← e]
  rw [ea]
  generalize j % 5 = r at *
  match r, hm, hj with
  | 0, _, hj => simp [cells5] at hj; subst hj; exact h0
  | 1, _, hj => simp [cells5] at hj; subst hj; exact h1
  | 2, _, hj => simp [cells5] at hj; subst hj; exact h2
  | 3, _, hj => simp [cells5] at hj; subst hj; exact h3
  | 4, _, hj => simp [cells5] at hj; subst hj; exact h4
theorem lies_flat {w : World} {a : Addr} {l : List V} (h : ∀ j u, (flat l)[j]? = some u → w.cell? (a.add j) = some u) : ∀ i (h : i < l.length), Open.VAt w (a.add (i * 5)) l[i] := by
  intro i hi
  have k : ∀ j (hj : j < 5), w.cell? ((a.add (i * 5)).add j) = (cells5 l[i])[j]? := by
    intro j hj
    rw [Deep.add_add]
    have : (flat l)[i * 5 + j]? = some ((cells5 l[i])[j]'(by simpa [cells5] using hj)) := by rw [flat_at l i j hi hj]; simp
    rw [h _ _ this]; simp
  exact ⟨k 0 (by decide), k 1 (by decide), k 2 (by decide), k 3 (by decide), k 4 (by decide)⟩
theorem info_val : (Tryz.prog.info? 24).map (fun i => (i.zero, i.size, i.bytes)) = some (some (.agg #[.int .i64 0, .int .i64 0, .float .f64 0, .string .empty, .bool false]), 5, 48) := by kernel_rfl
theorem own_cells {w : World} {e : TypeId} {g n cp : Nat} {L : List V} {base : Nat} (h : w.ownsRow base e 5 (.slice (some ⟨g, 0, none⟩) n cp) n (flat L)) : ∀ i (h : i < L.length), Open.VAt w ⟨g, i * 5, none⟩ L[i] := fun i hi => by
  have hv := lies_flat (h.cells rfl) i hi
  have e : (⟨g, 0, none⟩ : Addr).add (i * 5) = ⟨g, i * 5, none⟩ := by unfold Addr.add; split <;> simp_all
  rw [e] at hv
  exact hv
theorem flat2 (a b : V) (l : List V) : flat (a :: b :: l) = flat [a, b] ++ flat l := by simp [flat]
theorem grown_below {A w2 w3 : World} {o : Obj} {n c : Nat} (hb1 : Below A.heap.size A w2) (hg : (w2.alloc o).grownBy w3 (Value.ownBlock (.slice (some ⟨w2.heap.size, 0, none⟩) n c))) : Below A.heap.size A w3 :=
  Below.grown (btrans hb1 (balloc _ _)) hg (by have := hb1.size; simp; omega) (fun k hk => by simp [Value.ownBlock] at hk; subst hk; exact hb1.size)
theorem own_some {w : World} {e : TypeId} {v : Value} {n : Nat} {L : List V} {base : Nat} (h : w.ownsRow base e 5 v n (flat L)) (hpos : 0 < n) :
    ∃ g cp, v = .slice (some ⟨g, 0, none⟩) n cp ∧ base ≤ g ∧ ∀ i (h : i < L.length), Open.VAt w ⟨g, i * 5, none⟩ L[i] := by
  rcases h.2 with ⟨_, h0⟩ | ⟨g, cp, cur, rfl, hb, _⟩
  · omega
  · exact ⟨g, cp, rfl, hb, own_cells h⟩
theorem own_two (w : World) (a b : V) : (w.alloc (.cells #[.int .i64 a.kind, .int .i64 a.int, .float .f64 a.num, .string ⟨a.text.toArray⟩, .bool a.yes, .int .i64 b.kind, .int .i64 b.int, .float .f64 b.num, .string ⟨b.text.toArray⟩, .bool b.yes] 24)).ownsRow w.heap.size 24 5 (.slice (some ⟨w.heap.size, 0, none⟩) 2 2) 2 (flat [a, b]) :=
  ⟨rfl, .inr ⟨w.heap.size, 2, _, rfl, Nat.le_refl _, heap_alloc_new w _, Nat.le_refl _, by unfold maxLen; omega, rfl, rfl⟩⟩
theorem lies_below {w w2 : World} {ad : Addr} {l : List V} (hat : ∀ i (h : i < l.length), ∃ a, some ad = some a ∧ Open.VAt w (a.add (i * 5)) l[i]) (hb : Below w.heap.size w w2) : ∀ j u, (flat l)[j]? = some u → w2.cell? (ad.add j) = some u := by
  intro j u hj
  have h := flat_lies (w := w) (a := ad) (l := l) (fun i hi => by obtain ⟨a, e, h⟩ := hat i hi; cases e; exact h) j u hj
  exact (hb.cell (World.block_lt_of_cell? _ _ h)).trans h
theorem vat_below {w w2 : World} {a : Addr} {v : V} (h : Open.VAt w a v) (hb : Below w.heap.size w w2) : Open.VAt w2 a v := by
  obtain ⟨h0, h1, h2, h3, h4⟩ := h
  exact ⟨(hb.cell (World.block_lt_of_cell? _ _ h0)).trans h0, (hb.cell (World.block_lt_of_cell? _ _ h1)).trans h1, (hb.cell (World.block_lt_of_cell? _ _ h2)).trans h2, (hb.cell (World.block_lt_of_cell? _ _ h3)).trans h3, (hb.cell (World.block_lt_of_cell? _ _ h4)).trans h4⟩
attribute [local go_sem] run_store_flt
set_option maxRecDepth 20000 in
set_option maxHeartbeats 4000000 in
theorem implies06_any (na : List UInt8) (oa ka ia : Int) (xa : Nat) (ta : List UInt8) (ya : Bool) (nb : List UInt8) (ob kb ib : Int) (xb : Nat) (tb : List UInt8) (yb : Bool) (sv : Value) (l : List V) (w : World) (hw : Words w) (hs : Open.Vals w sv l) (hnil : ∀ n c, sv = .slice none n c → n = 0 ∧ c = 0)
    (z1 : na.length ≤ 140737488351232) (z2 : ta.length ≤ 140737488351232) (z3 : nb.length ≤ 140737488351232) (z4 : tb.length ≤ 140737488351232)
    (f1 : xa < 18446744073709551616) (f2 : xb < 18446744073709551616) :
    Calls Tryz.prog 7 #[cond na oa ka ia xa ta ya, cond nb ob kb ib xb tb yb, sv] w fun e w' => e = .returned (.bool true) ∧ Below w.heap.size w w' := by
  have HW := Lib.hid hw; clear hw
  have hso := implies_sound ⟨na, oa, ka, ia, xa, ta, ya⟩ ⟨nb, ob, kb, ib, xb, tb, yb⟩
  have hse := implies_self ⟨na, oa, ka, ia, xa, ta, ya⟩
  have hoa := @cright_op ⟨na, oa, ka, ia, xa, ta, ya⟩
  have hob := @cright_op ⟨nb, ob, kb, ib, xb, tb, yb⟩
  obtain ⟨a0, cap, rfl, hl1, hl2, hat⟩ := hs
  have hn0 := fun h : a0 = none => hnil l.length cap (by rw [h])
  have hlm : l.length ≤ 9223372036854775807 := by unfold maxLen at hl2; omega
  clear hnil hl1 hl2
  generalize hla : decide (na.length + ta.length ≤ 300) = la
  generalize hlb : decide (nb.length + tb.length ≤ 300) = lb
  generalize hra : cRight ⟨na, oa, ka, ia, xa, ta, ya⟩ = ra at hoa
  generalize hrb : cRight ⟨nb, ob, kb, ib, xb, tb, yb⟩ = rb at hob
  generalize hia : impliesB ⟨na, oa, ka, ia, xa, ta, ya⟩ ⟨nb, ob, kb, ib, xb, tb, yb⟩ = pa at hso
  have LA := Lib.hid hla; have LB := Lib.hid hlb; have RA := Lib.hid hra; have RB := Lib.hid hrb; have IA := Lib.hid hia
  have HAT := Lib.hid hat; have HN0 := Lib.hid hn0
  clear hla hlb hra hrb hia hat hn0
  have hlw : decide (40 < (l.length : Int)) = true ∨ decide (40 < (l.length : Int)) = false := by cases decide (40 < (l.length : Int)) <;> simp
  have hway : (la = false) ∨ (la = true ∧ lb = false) ∨ (la = true ∧ lb = true ∧ decide (40 < (l.length : Int)) = true) ∨ (la = true ∧ lb = true ∧ decide (40 < (l.length : Int)) = false ∧ ra = false) ∨ (la = true ∧ lb = true ∧ decide (40 < (l.length : Int)) = false ∧ ra = true ∧ rb = false) ∨ (la = true ∧ lb = true ∧ decide (40 < (l.length : Int)) = false ∧ ra = true ∧ rb = true) := by
    rcases hlw with h | h <;> cases la <;> cases lb <;> cases ra <;> cases rb <;> simp [h]
  clear hlw
  rcases hway with rfl | ⟨rfl, rfl⟩ | ⟨rfl, rfl, s1⟩ | ⟨rfl, rfl, s1, rfl⟩ | ⟨rfl, rfl, s1, rfl, rfl⟩ | ⟨rfl, rfl, s1, rfl, rfl⟩
  rotate_right
  · obtain ⟨a1, a7⟩ := hoa rfl
    obtain ⟨b1, b7⟩ := hob rfl
    have hl40 : l.length ≤ 40 := by simp at s1; omega
    have IS := Lib.hid (hse a1 a7)
    have HSO := Lib.hid (fun v => hso v a1 a7 b1 b7)
    clear hso hse hoa hob
    obtain ⟨i0, hi, hz0, hz1, hz2⟩ := info_parts info_val
    rcases a0 with _ | ad
    · obtain ⟨hl0, rfl⟩ := HN0.out rfl
      obtain rfl : l = [] := List.eq_nil_of_length_eq_zero hl0
      clear HN0 HAT hl0 s1 hl40 hlm
      have s1 : decide ((40 : Int) < 0) = false := by decide
      cases pa
      · skip
        go_enter Tryz.func7, Tryz.ntmps7
        go_wp2_with (first | (go_at_call 11; refine (fit_any _ (HW.out.below (by repeat (first | assumption | exact balloc _ _ | exact balloc2 _ _ _ | refine btrans ?_ (by assumption) | refine btrans ?_ (balloc _ _))))).mono ?_; rintro e w2 ⟨rfl, hb2⟩; (first | (replace hb1 := btrans hb1 hb2; clear hb2 hc1 hf1; obtain ⟨hc1, hf1⟩ := bcell hb1) | (have hb1 := hb2; clear hb2; obtain ⟨hc1, hf1⟩ := bcell hb1))) | (go_at_call 12; refine (light_any _ _ _ _ _ _ _ _ (by assumption) (by assumption)).mono ?_; rintro e w2 ⟨rfl, hb2⟩; (first | rw [LA.out] | rw [LB.out]); (first | (replace hb1 := btrans hb1 hb2; clear hb2 hc1 hf1; obtain ⟨hc1, hf1⟩ := bcell hb1) | (have hb1 := hb2; clear hb2; obtain ⟨hc1, hf1⟩ := bcell hb1))) | (go_at_call 15; refine (cright_any _ _ _ _ _ _ _ _ (by assumption) (by assumption)).mono ?_; rintro e w2 ⟨rfl, hb2⟩; (first | rw [RA.out] | rw [RB.out]); (first | (replace hb1 := btrans hb1 hb2; clear hb2 hc1 hf1; obtain ⟨hc1, hf1⟩ := bcell hb1) | (have hb1 := hb2; clear hb2; obtain ⟨hc1, hf1⟩ := bcell hb1))) | (go_at_call 25; refine (implies_any _ _ _ _ _ _ _ _ _ _ _ _ _ _ _ (by assumption) (by assumption) (by assumption) (by assumption)).mono ?_; rintro e w2 ⟨rfl, hb2⟩; (first | rw [IA.out] | rw [IS.out]); (first | (replace hb1 := btrans hb1 hb2; clear hb2 hc1 hf1; obtain ⟨hc1, hf1⟩ := bcell hb1) | (have hb1 := hb2; clear hb2; obtain ⟨hc1, hf1⟩ := bcell hb1))) | (go_at_call 26; refine (rimplies_any _ _ _ _ _ _ _ _ _ _ _ _ _ _ _ (by assumption) (by assumption) (by assumption)).mono ?_; rintro e w2 ⟨rfl, hb2⟩; rw [IA.out]; (first | (replace hb1 := btrans hb1 hb2; clear hb2 hc1 hf1; obtain ⟨hc1, hf1⟩ := bcell hb1) | (have hb1 := hb2; clear hb2; obtain ⟨hc1, hf1⟩ := bcell hb1))) | (at_builtin; refine wpList_append_own_none rfl _ _ 43 rfl w2.heap.size 24 i0 5 Tryz.underlying43 hi _ 2 (flat [⟨ka, ia, xa, ta, ya⟩, ⟨kb, ib, xb, tb, yb⟩]) rfl (own_two w2 ⟨ka, ia, xa, ta, ya⟩ ⟨kb, ib, xb, tb, yb⟩) rfl ?_; have hL := own_cells (own_two w2 ⟨ka, ia, xa, ta, ya⟩ ⟨kb, ib, xb, tb, yb⟩); have hb3 := btrans hb1 (balloc w2 (.cells #[.int .i64 ka, .int .i64 ia, .float .f64 xa, .string ⟨ta.toArray⟩, .bool ya, .int .i64 kb, .int .i64 ib, .float .f64 xb, .string ⟨tb.toArray⟩, .bool yb] 24)); obtain ⟨w3, hw3⟩ : ∃ w3, w3 = w2.alloc (.cells #[.int .i64 ka, .int .i64 ia, .float .f64 xa, .string ⟨ta.toArray⟩, .bool ya, .int .i64 kb, .int .i64 ib, .float .f64 xb, .string ⟨tb.toArray⟩, .bool yb] 24) := ⟨_, rfl⟩; rw [← hw3] at hL hb3 ⊢; have HL := Lib.hid hL; clear hL hc1 hf1 hb1 hw3; obtain ⟨hc1, hf1⟩ := bcell hb3) | fail)
        go_loopw [57] (fun i wr => ∃ kk : Nat, kk ≤ 2 ∧ i = .int .i64 kk ∧ Below w3.heap.size w3 wr) (fun i _ => 2 - (intOf i).toNat)
        case atStart => exact ⟨0, Nat.zero_le _, rfl, Below.refl _ _⟩
        case round =>
          obtain ⟨kk, hk, rfl, hbr⟩ := hrel
          have hb1 := btrans hb3 hbr
          clear hc1 hf1
          obtain ⟨hc1, hf1⟩ := bcell hb1
          by_cases hlt : kk < 2
          · obtain ⟨v, hV⟩ : ∃ v, Open.VAt wr ⟨_, kk * 5, none⟩ v := ⟨_, vat_below (HL.out kk (by simp; omega)) hbr⟩
            obtain ⟨vk, vi, vx, vt, vy⟩ := v
            obtain ⟨v0, v1, v2, v3, v4⟩ := hV
            dsimp only at v0 v1 v2 v3 v4
            have i1 : (kk : Int) < ((2 : Nat) : Int) := by omega
            have i0 : (0 : Int) ≤ (kk : Int) := by omega
            have hsz := size2 hb1
            have hsz0 : w.heap.size < wr.heap.size := by omega
            go_wp2_with fail
            case roundEnd => exact ⟨⟨kk + 1, by omega, by go_num, by repeat (first | assumption | exact balloc _ _ | exact balloc2 _ _ _ | refine btrans ?_ (by assumption) | refine btrans ?_ (balloc _ _))⟩, by simp [intOf]; go_num⟩
            all_goals
              go_ret
              exact ⟨rfl, by repeat (first | assumption | exact balloc _ _ | exact balloc2 _ _ _ | refine btrans ?_ (by assumption) | refine btrans ?_ (balloc _ _))⟩
          · have i1 : ¬ (kk : Int) < ((2 : Nat) : Int) := by omega
            go_wp2
            go_ret
            exact ⟨rfl, by repeat (first | assumption | exact balloc _ _ | exact balloc2 _ _ _ | refine btrans ?_ (by assumption) | refine btrans ?_ (balloc _ _))⟩
      · skip
        go_enter Tryz.func7, Tryz.ntmps7
        go_wp2_with (first | (go_at_call 11; refine (fit_any _ (HW.out.below (by repeat (first | assumption | exact balloc _ _ | exact balloc2 _ _ _ | refine btrans ?_ (by assumption) | refine btrans ?_ (balloc _ _))))).mono ?_; rintro e w2 ⟨rfl, hb2⟩; (first | (replace hb1 := btrans hb1 hb2; clear hb2 hc1 hf1; obtain ⟨hc1, hf1⟩ := bcell hb1) | (have hb1 := hb2; clear hb2; obtain ⟨hc1, hf1⟩ := bcell hb1))) | (go_at_call 12; refine (light_any _ _ _ _ _ _ _ _ (by assumption) (by assumption)).mono ?_; rintro e w2 ⟨rfl, hb2⟩; (first | rw [LA.out] | rw [LB.out]); (first | (replace hb1 := btrans hb1 hb2; clear hb2 hc1 hf1; obtain ⟨hc1, hf1⟩ := bcell hb1) | (have hb1 := hb2; clear hb2; obtain ⟨hc1, hf1⟩ := bcell hb1))) | (go_at_call 15; refine (cright_any _ _ _ _ _ _ _ _ (by assumption) (by assumption)).mono ?_; rintro e w2 ⟨rfl, hb2⟩; (first | rw [RA.out] | rw [RB.out]); (first | (replace hb1 := btrans hb1 hb2; clear hb2 hc1 hf1; obtain ⟨hc1, hf1⟩ := bcell hb1) | (have hb1 := hb2; clear hb2; obtain ⟨hc1, hf1⟩ := bcell hb1))) | (go_at_call 25; refine (implies_any _ _ _ _ _ _ _ _ _ _ _ _ _ _ _ (by assumption) (by assumption) (by assumption) (by assumption)).mono ?_; rintro e w2 ⟨rfl, hb2⟩; (first | rw [IA.out] | rw [IS.out]); (first | (replace hb1 := btrans hb1 hb2; clear hb2 hc1 hf1; obtain ⟨hc1, hf1⟩ := bcell hb1) | (have hb1 := hb2; clear hb2; obtain ⟨hc1, hf1⟩ := bcell hb1))) | (go_at_call 26; refine (rimplies_any _ _ _ _ _ _ _ _ _ _ _ _ _ _ _ (by assumption) (by assumption) (by assumption)).mono ?_; rintro e w2 ⟨rfl, hb2⟩; rw [IA.out]; (first | (replace hb1 := btrans hb1 hb2; clear hb2 hc1 hf1; obtain ⟨hc1, hf1⟩ := bcell hb1) | (have hb1 := hb2; clear hb2; obtain ⟨hc1, hf1⟩ := bcell hb1))) | (at_builtin; refine wpList_append_own_none rfl _ _ 43 rfl w2.heap.size 24 i0 5 Tryz.underlying43 hi _ 2 (flat [⟨ka, ia, xa, ta, ya⟩, ⟨kb, ib, xb, tb, yb⟩]) rfl (own_two w2 ⟨ka, ia, xa, ta, ya⟩ ⟨kb, ib, xb, tb, yb⟩) rfl ?_; have hL := own_cells (own_two w2 ⟨ka, ia, xa, ta, ya⟩ ⟨kb, ib, xb, tb, yb⟩); have hb3 := btrans hb1 (balloc w2 (.cells #[.int .i64 ka, .int .i64 ia, .float .f64 xa, .string ⟨ta.toArray⟩, .bool ya, .int .i64 kb, .int .i64 ib, .float .f64 xb, .string ⟨tb.toArray⟩, .bool yb] 24)); obtain ⟨w3, hw3⟩ : ∃ w3, w3 = w2.alloc (.cells #[.int .i64 ka, .int .i64 ia, .float .f64 xa, .string ⟨ta.toArray⟩, .bool ya, .int .i64 kb, .int .i64 ib, .float .f64 xb, .string ⟨tb.toArray⟩, .bool yb] 24) := ⟨_, rfl⟩; rw [← hw3] at hL hb3 ⊢; have HL := Lib.hid hL; clear hL hc1 hf1 hb1 hw3; obtain ⟨hc1, hf1⟩ := bcell hb3) | fail)
        go_loopw [57] (fun i wr => ∃ kk : Nat, kk ≤ 2 ∧ i = .int .i64 kk ∧ Below w3.heap.size w3 wr) (fun i _ => 2 - (intOf i).toNat)
        case atStart => exact ⟨0, Nat.zero_le _, rfl, Below.refl _ _⟩
        case round =>
          obtain ⟨kk, hk, rfl, hbr⟩ := hrel
          have hb1 := btrans hb3 hbr
          clear hc1 hf1
          obtain ⟨hc1, hf1⟩ := bcell hb1
          by_cases hlt : kk < 2
          · obtain ⟨v, hV⟩ : ∃ v, Open.VAt wr ⟨_, kk * 5, none⟩ v := ⟨_, vat_below (HL.out kk (by simp; omega)) hbr⟩
            obtain ⟨vk, vi, vx, vt, vy⟩ := v
            obtain ⟨v0, v1, v2, v3, v4⟩ := hV
            dsimp only at v0 v1 v2 v3 v4
            have i1 : (kk : Int) < ((2 : Nat) : Int) := by omega
            have i0 : (0 : Int) ≤ (kk : Int) := by omega
            have hsz := size2 hb1
            have hsz0 : w.heap.size < wr.heap.size := by omega
            have hso := HSO.out ⟨vk, vi, vx, vt, vy⟩ (by first | rfl | trivial)
            generalize hha : holdsB ⟨na, oa, ka, ia, xa, ta, ya⟩ ⟨vk, vi, vx, vt, vy⟩ = ha at hso
            generalize hhb : holdsB ⟨nb, ob, kb, ib, xb, tb, yb⟩ ⟨vk, vi, vx, vt, vy⟩ = hb at hso
            have EHA := Lib.hid hha; have EHB := Lib.hid hhb; clear hha hhb
            have hw2 : ha = false ∨ (ha = true ∧ hb = true) := by cases ha <;> simp_all
            clear hso
            rcases hw2 with rfl | ⟨rfl, rfl⟩
            all_goals
              go_wp2_with (first | (go_at_call 16; refine (holds_any _ _ _ _ _ _ _ _ _ _ _ _ _).mono ?_; rintro e w2 ⟨rfl, hb2⟩; (first | rw [EHA.out] | rw [EHB.out]); (first | (replace hb1 := btrans hb1 hb2; clear hb2 hc1 hf1; obtain ⟨hc1, hf1⟩ := bcell hb1) | (have hb1 := hb2; clear hb2; obtain ⟨hc1, hf1⟩ := bcell hb1))) | fail)
              case roundEnd => exact ⟨⟨kk + 1, by omega, by go_num, by repeat (first | assumption | exact balloc _ _ | exact balloc2 _ _ _ | refine btrans ?_ (by assumption) | refine btrans ?_ (balloc _ _))⟩, by simp [intOf]; go_num⟩
              all_goals
                go_ret
                exact ⟨rfl, by repeat (first | assumption | exact balloc _ _ | exact balloc2 _ _ _ | refine btrans ?_ (by assumption) | refine btrans ?_ (balloc _ _))⟩
          · have i1 : ¬ (kk : Int) < ((2 : Nat) : Int) := by omega
            go_wp2
            go_ret
            exact ⟨rfl, by repeat (first | assumption | exact balloc _ _ | exact balloc2 _ _ _ | refine btrans ?_ (by assumption) | refine btrans ?_ (balloc _ _))⟩
    · cases pa
      · clear HN0
        go_enter Tryz.func7, Tryz.ntmps7
        go_wp2_with (first | (go_at_call 11; refine (fit_any _ (HW.out.below (by repeat (first | assumption | exact balloc _ _ | exact balloc2 _ _ _ | refine btrans ?_ (by assumption) | refine btrans ?_ (balloc _ _))))).mono ?_; rintro e w2 ⟨rfl, hb2⟩; (first | (replace hb1 := btrans hb1 hb2; clear hb2 hc1 hf1; obtain ⟨hc1, hf1⟩ := bcell hb1) | (have hb1 := hb2; clear hb2; obtain ⟨hc1, hf1⟩ := bcell hb1))) | (go_at_call 12; refine (light_any _ _ _ _ _ _ _ _ (by assumption) (by assumption)).mono ?_; rintro e w2 ⟨rfl, hb2⟩; (first | rw [LA.out] | rw [LB.out]); (first | (replace hb1 := btrans hb1 hb2; clear hb2 hc1 hf1; obtain ⟨hc1, hf1⟩ := bcell hb1) | (have hb1 := hb2; clear hb2; obtain ⟨hc1, hf1⟩ := bcell hb1))) | (go_at_call 15; refine (cright_any _ _ _ _ _ _ _ _ (by assumption) (by assumption)).mono ?_; rintro e w2 ⟨rfl, hb2⟩; (first | rw [RA.out] | rw [RB.out]); (first | (replace hb1 := btrans hb1 hb2; clear hb2 hc1 hf1; obtain ⟨hc1, hf1⟩ := bcell hb1) | (have hb1 := hb2; clear hb2; obtain ⟨hc1, hf1⟩ := bcell hb1))) | (go_at_call 25; refine (implies_any _ _ _ _ _ _ _ _ _ _ _ _ _ _ _ (by assumption) (by assumption) (by assumption) (by assumption)).mono ?_; rintro e w2 ⟨rfl, hb2⟩; (first | rw [IA.out] | rw [IS.out]); (first | (replace hb1 := btrans hb1 hb2; clear hb2 hc1 hf1; obtain ⟨hc1, hf1⟩ := bcell hb1) | (have hb1 := hb2; clear hb2; obtain ⟨hc1, hf1⟩ := bcell hb1))) | (go_at_call 26; refine (rimplies_any _ _ _ _ _ _ _ _ _ _ _ _ _ _ _ (by assumption) (by assumption) (by assumption)).mono ?_; rintro e w2 ⟨rfl, hb2⟩; rw [IA.out]; (first | (replace hb1 := btrans hb1 hb2; clear hb2 hc1 hf1; obtain ⟨hc1, hf1⟩ := bcell hb1) | (have hb1 := hb2; clear hb2; obtain ⟨hc1, hf1⟩ := bcell hb1))) | (at_builtin; refine wpList_append_own _ rfl _ _ 43 rfl w2.heap.size 24 i0 (.agg #[.int .i64 0, .int .i64 0, .float .f64 0, .string .empty, .bool false]) 5 48 Tryz.underlying43 hi hz0 hz1 hz2 rfl (by decide) _ 2 (flat [⟨ka, ia, xa, ta, ya⟩, ⟨kb, ib, xb, tb, yb⟩]) rfl (own_two w2 ⟨ka, ia, xa, ta, ya⟩ ⟨kb, ib, xb, tb, yb⟩) ad l.length cap (flat l) rfl (flat_len l) (lies_below HAT.out (btrans (btrans (balloc2 _ _ _) hb1) (balloc _ _))) (flat_one l) (by unfold maxLen; omega) (by omega) (by simp) ?_; intro v' w3 hown' hgrow3 hnil3; rw [← flat2] at hown'; obtain ⟨g, cp, rfl, hbg, hL⟩ := own_some hown' (by omega); have hb3 := grown_below hb1 hgrow3; have HL := Lib.hid hL; clear hL hnil3 hgrow3 hown' hbg hc1 hf1 hb1; obtain ⟨hc1, hf1⟩ := bcell hb3) | fail)
        go_loopw [57] (fun i wr => ∃ kk : Nat, kk ≤ 2 + l.length ∧ i = .int .i64 kk ∧ Below w3.heap.size w3 wr) (fun i _ => 2 + l.length - (intOf i).toNat)
        case atStart => exact ⟨0, Nat.zero_le _, rfl, Below.refl _ _⟩
        case round =>
          obtain ⟨kk, hk, rfl, hbr⟩ := hrel
          have hb1 := btrans hb3 hbr
          clear hc1 hf1
          obtain ⟨hc1, hf1⟩ := bcell hb1
          by_cases hlt : kk < 2 + l.length
          · obtain ⟨v, hV⟩ : ∃ v, Open.VAt wr ⟨_, kk * 5, none⟩ v := ⟨_, vat_below (HL.out kk (by simp; omega)) hbr⟩
            obtain ⟨vk, vi, vx, vt, vy⟩ := v
            obtain ⟨v0, v1, v2, v3, v4⟩ := hV
            dsimp only at v0 v1 v2 v3 v4
            have i1 : (kk : Int) < ((2 + l.length : Nat) : Int) := by omega
            have i0 : (0 : Int) ≤ (kk : Int) := by omega
            have hsz := size2 hb1
            have hsz0 : w.heap.size < wr.heap.size := by omega
            go_wp2_with fail
            case roundEnd => exact ⟨⟨kk + 1, by omega, by go_num, by repeat (first | assumption | exact balloc _ _ | exact balloc2 _ _ _ | refine btrans ?_ (by assumption) | refine btrans ?_ (balloc _ _))⟩, by simp [intOf]; go_num⟩
            all_goals
              go_ret
              exact ⟨rfl, by repeat (first | assumption | exact balloc _ _ | exact balloc2 _ _ _ | refine btrans ?_ (by assumption) | refine btrans ?_ (balloc _ _))⟩
          · have i1 : ¬ (kk : Int) < ((2 + l.length : Nat) : Int) := by omega
            go_wp2
            go_ret
            exact ⟨rfl, by repeat (first | assumption | exact balloc _ _ | exact balloc2 _ _ _ | refine btrans ?_ (by assumption) | refine btrans ?_ (balloc _ _))⟩
      · clear HN0
        go_enter Tryz.func7, Tryz.ntmps7
        go_wp2_with (first | (go_at_call 11; refine (fit_any _ (HW.out.below (by repeat (first | assumption | exact balloc _ _ | exact balloc2 _ _ _ | refine btrans ?_ (by assumption) | refine btrans ?_ (balloc _ _))))).mono ?_; rintro e w2 ⟨rfl, hb2⟩; (first | (replace hb1 := btrans hb1 hb2; clear hb2 hc1 hf1; obtain ⟨hc1, hf1⟩ := bcell hb1) | (have hb1 := hb2; clear hb2; obtain ⟨hc1, hf1⟩ := bcell hb1))) | (go_at_call 12; refine (light_any _ _ _ _ _ _ _ _ (by assumption) (by assumption)).mono ?_; rintro e w2 ⟨rfl, hb2⟩; (first | rw [LA.out] | rw [LB.out]); (first | (replace hb1 := btrans hb1 hb2; clear hb2 hc1 hf1; obtain ⟨hc1, hf1⟩ := bcell hb1) | (have hb1 := hb2; clear hb2; obtain ⟨hc1, hf1⟩ := bcell hb1))) | (go_at_call 15; refine (cright_any _ _ _ _ _ _ _ _ (by assumption) (by assumption)).mono ?_; rintro e w2 ⟨rfl, hb2⟩; (first | rw [RA.out] | rw [RB.out]); (first | (replace hb1 := btrans hb1 hb2; clear hb2 hc1 hf1; obtain ⟨hc1, hf1⟩ := bcell hb1) | (have hb1 := hb2; clear hb2; obtain ⟨hc1, hf1⟩ := bcell hb1))) | (go_at_call 25; refine (implies_any _ _ _ _ _ _ _ _ _ _ _ _ _ _ _ (by assumption) (by assumption) (by assumption) (by assumption)).mono ?_; rintro e w2 ⟨rfl, hb2⟩; (first | rw [IA.out] | rw [IS.out]); (first | (replace hb1 := btrans hb1 hb2; clear hb2 hc1 hf1; obtain ⟨hc1, hf1⟩ := bcell hb1) | (have hb1 := hb2; clear hb2; obtain ⟨hc1, hf1⟩ := bcell hb1))) | (go_at_call 26; refine (rimplies_any _ _ _ _ _ _ _ _ _ _ _ _ _ _ _ (by assumption) (by assumption) (by assumption)).mono ?_; rintro e w2 ⟨rfl, hb2⟩; rw [IA.out]; (first | (replace hb1 := btrans hb1 hb2; clear hb2 hc1 hf1; obtain ⟨hc1, hf1⟩ := bcell hb1) | (have hb1 := hb2; clear hb2; obtain ⟨hc1, hf1⟩ := bcell hb1))) | (at_builtin; refine wpList_append_own _ rfl _ _ 43 rfl w2.heap.size 24 i0 (.agg #[.int .i64 0, .int .i64 0, .float .f64 0, .string .empty, .bool false]) 5 48 Tryz.underlying43 hi hz0 hz1 hz2 rfl (by decide) _ 2 (flat [⟨ka, ia, xa, ta, ya⟩, ⟨kb, ib, xb, tb, yb⟩]) rfl (own_two w2 ⟨ka, ia, xa, ta, ya⟩ ⟨kb, ib, xb, tb, yb⟩) ad l.length cap (flat l) rfl (flat_len l) (lies_below HAT.out (btrans (btrans (balloc2 _ _ _) hb1) (balloc _ _))) (flat_one l) (by unfold maxLen; omega) (by omega) (by simp) ?_; intro v' w3 hown' hgrow3 hnil3; rw [← flat2] at hown'; obtain ⟨g, cp, rfl, hbg, hL⟩ := own_some hown' (by omega); have hb3 := grown_below hb1 hgrow3; have HL := Lib.hid hL; clear hL hnil3 hgrow3 hown' hbg hc1 hf1 hb1; obtain ⟨hc1, hf1⟩ := bcell hb3) | fail)
        go_loopw [57] (fun i wr => ∃ kk : Nat, kk ≤ 2 + l.length ∧ i = .int .i64 kk ∧ Below w3.heap.size w3 wr) (fun i _ => 2 + l.length - (intOf i).toNat)
        case atStart => exact ⟨0, Nat.zero_le _, rfl, Below.refl _ _⟩
        case round =>
          obtain ⟨kk, hk, rfl, hbr⟩ := hrel
          have hb1 := btrans hb3 hbr
          clear hc1 hf1
          obtain ⟨hc1, hf1⟩ := bcell hb1
          by_cases hlt : kk < 2 + l.length
          · obtain ⟨v, hV⟩ : ∃ v, Open.VAt wr ⟨_, kk * 5, none⟩ v := ⟨_, vat_below (HL.out kk (by simp; omega)) hbr⟩
            obtain ⟨vk, vi, vx, vt, vy⟩ := v
            obtain ⟨v0, v1, v2, v3, v4⟩ := hV
            dsimp only at v0 v1 v2 v3 v4
            have i1 : (kk : Int) < ((2 + l.length : Nat) : Int) := by omega
            have i0 : (0 : Int) ≤ (kk : Int) := by omega
            have hsz := size2 hb1
            have hsz0 : w.heap.size < wr.heap.size := by omega
            have hso := HSO.out ⟨vk, vi, vx, vt, vy⟩ (by first | rfl | trivial)
            generalize hha : holdsB ⟨na, oa, ka, ia, xa, ta, ya⟩ ⟨vk, vi, vx, vt, vy⟩ = ha at hso
            generalize hhb : holdsB ⟨nb, ob, kb, ib, xb, tb, yb⟩ ⟨vk, vi, vx, vt, vy⟩ = hb at hso
            have EHA := Lib.hid hha; have EHB := Lib.hid hhb; clear hha hhb
            have hw2 : ha = false ∨ (ha = true ∧ hb = true) := by cases ha <;> simp_all
            clear hso
            rcases hw2 with rfl | ⟨rfl, rfl⟩
            all_goals
              go_wp2_with (first | (go_at_call 16; refine (holds_any _ _ _ _ _ _ _ _ _ _ _ _ _).mono ?_; rintro e w2 ⟨rfl, hb2⟩; (first | rw [EHA.out] | rw [EHB.out]); (first | (replace hb1 := btrans hb1 hb2; clear hb2 hc1 hf1; obtain ⟨hc1, hf1⟩ := bcell hb1) | (have hb1 := hb2; clear hb2; obtain ⟨hc1, hf1⟩ := bcell hb1))) | fail)
              case roundEnd => exact ⟨⟨kk + 1, by omega, by go_num, by repeat (first | assumption | exact balloc _ _ | exact balloc2 _ _ _ | refine btrans ?_ (by assumption) | refine btrans ?_ (balloc _ _))⟩, by simp [intOf]; go_num⟩
              all_goals
                go_ret
                exact ⟨rfl, by repeat (first | assumption | exact balloc _ _ | exact balloc2 _ _ _ | refine btrans ?_ (by assumption) | refine btrans ?_ (balloc _ _))⟩
          · have i1 : ¬ (kk : Int) < ((2 + l.length : Nat) : Int) := by omega
            go_wp2
            go_ret
            exact ⟨rfl, by repeat (first | assumption | exact balloc _ _ | exact balloc2 _ _ _ | refine btrans ?_ (by assumption) | refine btrans ?_ (balloc _ _))⟩
  all_goals
    clear hso hse hoa hob
    go_enter Tryz.func7, Tryz.ntmps7
    go_wp2_with (first | (go_at_call 11; refine (fit_any _ (HW.out.below (by repeat (first | assumption | exact balloc _ _ | exact balloc2 _ _ _ | refine btrans ?_ (by assumption) | refine btrans ?_ (balloc _ _))))).mono ?_; rintro e w2 ⟨rfl, hb2⟩; (first | (replace hb1 := btrans hb1 hb2; clear hb2 hc1 hf1; obtain ⟨hc1, hf1⟩ := bcell hb1) | (have hb1 := hb2; clear hb2; obtain ⟨hc1, hf1⟩ := bcell hb1))) | (go_at_call 12; refine (light_any _ _ _ _ _ _ _ _ (by assumption) (by assumption)).mono ?_; rintro e w2 ⟨rfl, hb2⟩; (first | rw [LA.out] | rw [LB.out]); (first | (replace hb1 := btrans hb1 hb2; clear hb2 hc1 hf1; obtain ⟨hc1, hf1⟩ := bcell hb1) | (have hb1 := hb2; clear hb2; obtain ⟨hc1, hf1⟩ := bcell hb1))) | (go_at_call 15; refine (cright_any _ _ _ _ _ _ _ _ (by assumption) (by assumption)).mono ?_; rintro e w2 ⟨rfl, hb2⟩; (first | rw [RA.out] | rw [RB.out]); (first | (replace hb1 := btrans hb1 hb2; clear hb2 hc1 hf1; obtain ⟨hc1, hf1⟩ := bcell hb1) | (have hb1 := hb2; clear hb2; obtain ⟨hc1, hf1⟩ := bcell hb1))) | fail)
    go_ret
    exact ⟨rfl, by repeat (first | assumption | exact balloc _ _ | exact balloc2 _ _ _ | refine btrans ?_ (by assumption) | refine btrans ?_ (balloc _ _))⟩
set_option maxRecDepth 100000 in
theorem implies06_lifted (os : Os) (started : os.Started) (H : Type) (enc : TypeId × Value → H) :
    ReturnsInHanded {} Tryz.checked os 7 .any (fun w args => (Rows.condImpliesSpec.pre enc Tryz.prog Tryz.f7 Rows.condImpliesRow.domain false w args ∧ laidMetH Tryz.prog Rows.condImpliesRow.laid w) ∧ sizedMet enc Tryz.prog Tryz.f7 (OpenSpec.ofChange Rows.condImpliesSpec) false w args)
      (Rows.condImpliesSpec.post enc Tryz.prog Tryz.f7 false true false false) := by
  refine returnsInHanded_of_change_and (C := Tryz.checked) (X := fun w _ => laidMetH Tryz.prog Rows.condImpliesRow.laid w) (fun _ _ _ hh h => h.of_heap hh) Frame.own started (by kernel_rfl) Tryz.func7
    (ChangeSpec.witness_shaped (enc := enc) (C := Tryz.checked) (os := os) (X := fun w _ => laidMetH Tryz.prog Rows.condImpliesRow.laid w) false (World.laidAll Tryz.prog os Rows.condImpliesRow.laid) #[.agg #[.string .empty, .int .i64 0, .int .i64 0, .int .i64 0, .float .f64 0, .string .empty, .bool false], .agg #[.string .empty, .int .i64 0, .int .i64 0, .int .i64 0, .float .f64 0, .string .empty, .bool false], .slice none 0 0] 8 (World.laidAll_os _ _ _)
      (World.shaped_of_ZipB (by kernel_rfl) (by kernel_rfl)) (by kernel_rfl) (by kernel_rfl) (by kernel_rfl)
      (by rw [MakeChecks.laidMetH_plain _ _ _ (by kernel_rfl)]; exact laidMet_laidAll _ (by kernel_rfl) (by kernel_rfl))) ?_
  intro W base args ds gs before hval0 hW _ hsz0 hL _
  have hsz : (DataW.weightsEach Tryz.prog (Tryz.f7.params.toList ++ Rows.condImpliesSpec.plain.varTypes Tryz.prog) (ds ++ gs)).all (· ≤ reachBytes) = true := hsz0
  have hval : ∀ (j : Nat) t v, Tryz.f7.params[j]? = some t → args[j]? = some v → Value.okWide Tryz.prog W .any base t v := hval0
  have hW' := hW
  obtain ⟨p, q, hA0, hV, rfl, hfz, hnd⟩ := hW
  have hA : DataW.TrodAll enc Tryz.prog W 0 (fun _ => true) true Tryz.f7.params.toList args.toList ds p := hA0
  rw [Tryz.params7] at hA hval hsz
  obtain ⟨v0, vs0, d0, ds0, p0, q0, hargs, rfl, rfl, h0, r0⟩ := trodAll_cons hA
  obtain ⟨v1, vs1, d1, ds1, p1, q1, rfl, rfl, rfl, h1, r1⟩ := trodAll_cons r0
  obtain ⟨v2, vs2, d2, ds2, p2, q2, rfl, rfl, rfl, h2, r2⟩ := trodAll_cons r1
  obtain ⟨rfl, rfl, rfl⟩ := trodAll_nil r2
  obtain rfl : args = #[v0, v1, v2] := by cases args; simp_all
  obtain ⟨rfl, rfl⟩ := trodVars_none hV
  obtain ⟨ma, oa, ka, ia, xa, ta, ya, rfl, wa⟩ := Open.open_cond (hval 0 26 v0 rfl rfl) h0 (Open.reach_of hsz (j := 0) (t := 26) rfl rfl)
  obtain ⟨mb, ob, kb, ib, xb, tb, yb, rfl, wb⟩ := Open.open_cond (hval 1 26 v1 rfl rfl) h1 (Open.reach_of hsz (j := 1) (t := 26) rfl rfl)
  obtain ⟨lc, sc, wc⟩ := Open.open_vals (hval 2 43 v2 rfl rfl) h2 (Open.reach_of hsz (j := 2) (t := 43) rfl rfl)
  clear hA0 hval0 hsz hsz0
  refine (implies06_any ma oa ka ia xa ta ya mb ob kb ib xb tb yb v2 lc W (words_ofImplies hL) sc wc.2 wa.1 wa.2.2.2.2.2 wb.1 wb.2.2.2.2.2 wa.2.2.2.2.1 wb.2.2.2.2.1).mono fun e W' ⟨he, hw⟩ => ?_
  subst he
  exact ⟨_, rfl, Frame.law_post Frame.laidOut (by kernel_rfl) rfl (by kernel_rfl) Tryz.underlying4 rfl rfl rfl hW' hw⟩

theorem implies06_said : Rows.CondImpliesSaid :=
  OpenClaim.holds_of_wide 7 Tryz.f7 rfl rfl rfl rfl rfl rfl rfl ⟨rfl, rfl, rfl, rfl, rfl⟩ rfl rfl rfl rfl rfl (by kernel_rfl) Tryz.func7 (by kernel_rfl)
    (of_decide_eq_true (by kernel_rfl)) (by unfold Func.isWrapper; first | (rw [if_pos (by decide +kernel)]; kernel_rfl) | (rw [if_neg (by decide +kernel)]; exact ⟨rfl, rfl⟩))
    (fun os started H enc _ => implies06_lifted os started H enc)
theorem implies06_plain (f : FuncId) (fn : Func) (hf : Tryz.pinned.checked.prog.funcNamed "gazette/gazettelaw06.CondImplies" = some f) (hfn : Tryz.pinned.checked.prog.funcs[f]? = some fn) :
    false = Tryz.pinned.checked.prog.looks [] ∧ ∀ (j : Nat) t, fn.params[j]? = some t → Tryz.pinned.checked.prog.wantsStandIn t = false := by
  obtain rfl : f = 7 := Option.some.inj ((show Tryz.prog.funcNamed "gazette/gazettelaw06.CondImplies" = some 7 by kernel_rfl).symm.trans hf) |>.symm
  obtain rfl : fn = Tryz.f7 := (Option.some.inj (Tryz.func7.symm.trans hfn)).symm
  refine ⟨by kernel_rfl, fun j t ht => ?_⟩
  rw [Tryz.params7] at ht
  have hm : t ∈ [26, 26, 43] := by simpa using Array.mem_of_getElem? ht
  have hall : ([26, 26, 43].all fun u => !Tryz.prog.wantsStandIn u) = true := by kernel_rfl
  exact (show Tryz.prog.wantsStandIn t = false by simpa using List.all_eq_true.1 hall t hm)
theorem implies06_holds : Rows.CondImpliesCardSaid :=
  Claim7.holds_tied_plain_at .later [] _ _ _ _ implies06_said (fun _ h => by cases h) (by kernel_rfl) (fun _ h => by cases h) condImplies_row_tie rfl ⟨rfl, rfl⟩ (by kernel_rfl) rfl implies06_plain (by kernel_rfl)
end Go.Proofs.YtjddkbgnndefaaaGreatDoor.Val
