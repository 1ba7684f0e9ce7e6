/- MERGED BY A PROGRAM OF MINE (mg.py) out of my own texts, in their order: Norm, FPrint, Key, VInj, NormFn, Keep, OpenF, TurnsFn, PolAdd, PolAt, PolRep, PolRun, PolFit, PolFull. -/
import Derived.Test.YtfkedobofamkiaaGreatDoorMgPolicyFull3
import Derived.Test.YtfkedobofamkiaaGreatDoorFmtM
import Derived.Test.YtfkedobofamkiaaGreatDoorCondFit
import Derived.Test.YtfkedobofamkiaaGreatDoorPrint
import Derived.Laws.AppendOwnNone
import Derived.Deep.AppendLies
import Derived.Deep.RegionHeldLaw

section
/- THE WALK OF filter.Norm. -/
namespace Go.Proofs.YtfkedobofamkiaaGreatDoor.Val
open Go.RowKit Flt
/-- what is kept of the first k -/
def keepC (S : List C) : Nat → List C
  | 0 => []
  | k + 1 => keepC S k ++ (if needB S k then [] else [S[k]!])
def sortC (L : List C) : List C := isort L (L.length - 1)
/-- what a filter's conditions are brought to -/
def normL (L : List C) : List C := keepC (sortC (L.map canonC)) L.length
theorem keepC_len (S : List C) : ∀ k, (keepC S k).length ≤ k
  | 0 => Nat.le_refl _
  | k + 1 => by
    have := keepC_len S k
    rw [keepC, List.length_append]
    split <;> simp <;> omega
theorem info_cond : (Tryz.prog.info? 59).map (fun i => (i.zero, i.size, i.bytes)) = some (some (.agg #[.string .empty, .int .i64 0, .int .i64 0, .int .i64 0, .float .f64 0, .string .empty, .bool false]), 7, 72) := by kernel_rfl
theorem new_cond (w : World) (g : Nat) (hg : g = w.heap.size) (c : C) (e : TypeId) : ∀ j u, (flatC [c])[j]? = some u → (w.alloc (.cells #[.string ⟨c.name.toArray⟩, .int .i64 c.op, .int .i64 c.val.kind, .int .i64 c.val.int, .float .f64 c.val.num, .string ⟨c.val.text.toArray⟩, .bool c.val.yes] e)).cell? ((⟨g, 0, none⟩ : Addr).add j) = some u := by
  subst hg
  intro j u hj
  have hadd : (⟨w.heap.size, 0, none⟩ : Addr).add j = ⟨w.heap.size, j, none⟩ := by unfold Addr.add; split <;> simp_all
  rw [hadd]
  simpa [flatC, cells7, go_sem] using hj
theorem canon_small {c : C} (h : CSmall c ∧ 0 ≤ c.op ∧ c.op ≤ 7) : CSmall (canonC c) ∧ 0 ≤ (canonC c).op ∧ (canonC c).op ≤ 7 := by
  obtain ⟨nm, op, k, n, x, t, y⟩ := c
  obtain ⟨⟨h1, h2, h3, h4, h5⟩, h6, h7⟩ := h
  simp only at h1 h2 h3 h4 h5 h6 h7
  unfold canonC
  split
  · exact ⟨⟨h1, by show 0 ≤ _; omega, by show 0 < _; omega, by show _ ≤ (0 : Int); omega, by show (0 : Int) ≤ _; omega⟩, by show (0 : Int) ≤ 7; omega, by show (7 : Int) ≤ 7; omega⟩
  · have hv : (canonV ⟨k, n, x, t, y⟩).text.length ≤ 1000 ∧ (canonV ⟨k, n, x, t, y⟩).num < 18446744073709551616 ∧ -9223372036854775808 ≤ (canonV ⟨k, n, x, t, y⟩).int ∧ (canonV ⟨k, n, x, t, y⟩).int ≤ 9223372036854775807 := by
      unfold canonV
      split
      · exact ⟨by show 0 ≤ _; omega, by show 0 < _; omega, h4, h5⟩
      · split
        · exact ⟨by show 0 ≤ _; omega, canon_lt x h3, by show _ ≤ (0 : Int); omega, by show (0 : Int) ≤ _; omega⟩
        · split
          · exact ⟨h2, by show 0 < _; omega, by show _ ≤ (0 : Int); omega, by show (0 : Int) ≤ _; omega⟩
          · split <;> exact ⟨by show 0 ≤ _; omega, by show 0 < _; omega, by show _ ≤ (0 : Int); omega, by show (0 : Int) ≤ _; omega⟩
    exact ⟨⟨h1, hv.1, hv.2.1, hv.2.2.1, hv.2.2.2⟩, h6, h7⟩
theorem own_conds {w : World} {v : Value} {l : List C} {base : Nat} (h : w.ownsRow base 59 7 v l.length (flatC l)) :
    ∃ b0 cap, v = .slice b0 l.length cap ∧ Conds w b0 l := by
  rcases h.2 with ⟨rfl, h0⟩ | ⟨g, cp, cur, rfl, hb, hg, hh⟩
  · have : l = [] := List.eq_nil_of_length_eq_zero h0
    subst this
    exact ⟨none, 0, rfl, fun i hi => absurd hi (Nat.not_lt_zero _)⟩
  · refine ⟨some ⟨g, 0, none⟩, cp, rfl, fun i hi => ⟨_, rfl, ?_⟩⟩
    have k : ∀ j (hj : j < 7), w.cell? ⟨g, i * 7 + j, none⟩ = (cells7 l[i])[j]? := by
      intro j hj
      have hl := flatC_len l
      have hm := flatC_at l i j hi hj
      have hc : (cells7 l[i])[j]? = some ((cells7 l[i])[j]'(by simpa [cells7] using hj)) := by simp
      rw [hc] at hm ⊢
      have := h.cells rfl (i * 7 + j) _ hm
      have hadd : (⟨g, 0, none⟩ : Addr).add (i * 7 + j) = ⟨g, i * 7 + j, none⟩ := by unfold Addr.add; split <;> simp_all
      rw [← hadd]; exact this
    have hadd : (⟨g, 0, none⟩ : Addr).add (i * 7) = ⟨g, i * 7, none⟩ := by unfold Addr.add; split <;> simp_all
    rw [hadd]
    exact ⟨k 0 (by decide), k 1 (by decide), k 2 (by decide), k 3 (by decide), k 4 (by decide), k 5 (by decide), k 6 (by decide)⟩
theorem own_low7 {W W2 : World} {base e size : Nat} {v : Value} {n : Nat} {xs : List Value} (h : W.ownsRow base e size v n xs) (hb : Below W.heap.size W W2) : W2.ownsRow base e size v n xs :=
  Fmt.own_low h hb (fun k hk => (h.lt k hk).2)
/-- a row of the call's own, as a row of conditions -/
theorem own_row {w : World} {v : Value} {l : List C} {base : Nat} (h : w.ownsRow base 59 7 v l.length (flatC l)) (h0 : 0 < l.length) :
    ∃ g cap Z, v = .slice (some ⟨g, 0, none⟩) l.length cap ∧ base ≤ g ∧ Row w g l Z := by
  rcases h.2 with ⟨_, h1⟩ | ⟨g, cp, cur, rfl, hb, hg, _, _, hsz, ht⟩
  · omega
  · refine ⟨g, cp, cur.toList.drop (l.length * 7), rfl, hb, ?_⟩
    unfold Row
    rw [hg]
    refine congrArg (fun z => some (Obj.cells z 59 (0, 0))) (Array.ext' ?_)
    show cur.toList = flatC l ++ cur.toList.drop (l.length * 7)
    rw [← ht, List.take_append_drop]
attribute [local go_sem] run_store_flt
set_option maxRecDepth 20000 in
set_option maxHeartbeats 4000000 in
theorem norm_any (sf : List UInt8) (a0 : Option Addr) (cap : Nat) (L : List C) (w : World) (hl : Conds w a0 L) (hlm : L.length ≤ 19) (hw : Words w) (hT : Tab.Tabs w) (hs : ∀ c ∈ L, CSmall c ∧ 0 ≤ c.op ∧ c.op ≤ 7) :
    Calls Tryz.prog 16 #[ev sf a0 L.length cap] w fun e w' =>
      ∃ b0 cp, e = .returned (ev sf b0 (normL L).length cp) ∧ Conds w' b0 (normL L) ∧ Below w.heap.size w w' := by
  have HL := Lib.hid hl; have HW := Lib.hid hw; have HT := Lib.hid hT; have HS := Lib.hid hs
  clear hl hw hT hs
  obtain ⟨i0, hi, hz0, hz1, hz2⟩ := info_parts info_cond
  generalize hNN : normL L = N
  have HNN := Lib.hid hNN; clear hNN
  go_enter Tryz.func16, Tryz.ntmps16
  go_wp2_with fail
  have hW0 : Below w.heap.size w ((w.alloc (.cells #[.string ⟨sf.toArray⟩, .slice a0 L.length cap] 31)).alloc (.cells #[.string ⟨#[]⟩, .slice none 0 0] 31)) := balloc2 _ _ _
  have hsz0 : ((w.alloc (.cells #[.string ⟨sf.toArray⟩, .slice a0 L.length cap] 31)).alloc (.cells #[.string ⟨#[]⟩, .slice none 0 0] 31)).heap.size = w.heap.size + 2 := by simp
  have e0 : ∀ o, ((w.alloc (.cells #[.string ⟨sf.toArray⟩, .slice a0 L.length cap] 31)).alloc (.cells #[.string ⟨#[]⟩, .slice none 0 0] 31)).cell? ⟨w.heap.size, o, none⟩ = #[.string ⟨sf.toArray⟩, .slice a0 L.length cap][o]? := fun o => ((balloc (w.alloc (.cells #[.string ⟨sf.toArray⟩, .slice a0 L.length cap] 31)) _).cell (p := ⟨w.heap.size, o, none⟩) (by simp)).trans (World.cell?_alloc_at _ _ _ _ rfl)
  have e1 : ∀ o, ((w.alloc (.cells #[.string ⟨sf.toArray⟩, .slice a0 L.length cap] 31)).alloc (.cells #[.string ⟨#[]⟩, .slice none 0 0] 31)).cell? ⟨w.heap.size + 1, o, none⟩ = #[.string ⟨#[]⟩, .slice none 0 0][o]? := fun o => World.cell?_alloc_at _ _ _ _ (by simp)
  have e2 : ∀ o, ((w.alloc (.cells #[.string ⟨sf.toArray⟩, .slice a0 L.length cap] 31)).alloc (.cells #[.string ⟨#[]⟩, .slice none 0 0] 31)).frozen? ⟨w.heap.size + 1, o, none⟩ = false := fun o => by simp [go_sem]
  have x0 : ((w.alloc (.cells #[.string ⟨sf.toArray⟩, .slice a0 L.length cap] 31)).alloc (.cells #[.string ⟨#[]⟩, .slice none 0 0] 31)).cell? ⟨w.heap.size, 0, none⟩ = some (.string ⟨sf.toArray⟩) := e0 0
  have x1 : ((w.alloc (.cells #[.string ⟨sf.toArray⟩, .slice a0 L.length cap] 31)).alloc (.cells #[.string ⟨#[]⟩, .slice none 0 0] 31)).cell? ⟨w.heap.size, 1, none⟩ = some (.slice a0 L.length cap) := e0 1
  have x2 : ((w.alloc (.cells #[.string ⟨sf.toArray⟩, .slice a0 L.length cap] 31)).alloc (.cells #[.string ⟨#[]⟩, .slice none 0 0] 31)).cell? ⟨w.heap.size + 1, 0, none⟩ = some (.string ⟨#[]⟩) := e1 0
  have x3 : ((w.alloc (.cells #[.string ⟨sf.toArray⟩, .slice a0 L.length cap] 31)).alloc (.cells #[.string ⟨#[]⟩, .slice none 0 0] 31)).cell? ⟨w.heap.size + 1, 1, none⟩ = some (.slice none 0 0) := e1 1
  have x4 := e2 0; have x5 := e2 1
  have HX := Lib.hid (And.intro x0 (And.intro x1 (And.intro x2 (And.intro x3 (And.intro x4 x5)))))
  have HW0 := Lib.hid hW0; have HSZ0 := Lib.hid hsz0
  clear e0 e1 e2 x0 x1 x2 x3 x4 x5 hW0 hsz0
  generalize World.alloc _ _ = W0 at *
  go_loopw [3, 12] (fun vl vi wr => ∃ (k : Nat) (v : Value), k ≤ L.length ∧ vl = v ∧ vi = .int .i64 k ∧ wr.ownsRow W0.heap.size 59 7 v ((L.take k).map canonC).length (flatC ((L.take k).map canonC)) ∧ Below W0.heap.size W0 wr) (fun _ vi _ => L.length - (intOf vi).toNat)
  case atStart => exact ⟨0, _, Nat.zero_le _, rfl, rfl, World.ownsRow_nil _ _ _ _, Below.refl _ _⟩
  case round =>
    obtain ⟨k, v, hk, rfl, rfl, hown, hbr⟩ := hrel
    have OWN := Lib.hid hown; have HBR := Lib.hid hbr
    have hbw : Below w.heap.size w wr := btrans HW0.out hbr
    have hlen : ((L.take k).map canonC).length = k := by rw [List.length_map, List.length_take]; omega
    have HLEN := Lib.hid hlen
    clear hown hlen
    by_cases hlt : k < L.length
    · have i1 : (k : Int) < (L.length : Int) := by omega
      have i0' : (0 : Int) ≤ (k : Int) := by omega
      obtain ⟨a, rfl, v0, v1, v2, v3, v4, v5, v6⟩ := (HL.out.below hbw) k hlt
      have hni (W : World) := ccanon_any (L[k]'hlt).name (L[k]'hlt).op (L[k]'hlt).val.kind (L[k]'hlt).val.int (L[k]'hlt).val.num (L[k]'hlt).val.text (L[k]'hlt).val.yes W
      have e : canonC ⟨(L[k]'hlt).name, (L[k]'hlt).op, (L[k]'hlt).val.kind, (L[k]'hlt).val.int, (L[k]'hlt).val.num, (L[k]'hlt).val.text, (L[k]'hlt).val.yes⟩ = canonC (L[k]'hlt) := rfl
      rw [e] at hni
      clear e
      have hstep : (L.take (k + 1)).map canonC = (L.take k).map canonC ++ [canonC (L[k]'hlt)] := by rw [List.take_succ_eq_append_getElem hlt, List.map_append]; rfl
      generalize canonC (L[k]'hlt) = cn at *
      generalize (L[k]'hlt) = x at *
      have HN := Lib.hid hni; have HSTEP := Lib.hid hstep
      clear hni hstep hbr hbw
      obtain ⟨cn1, cn2, cn3, cn4, cn5, cn6, cn7⟩ := cn
      go_wp2_with (first
        | (go_at_call 26; refine (HN.out _).mono ?_; rintro e w3 ⟨rfl, hb3⟩; have HB3 := Lib.hid hb3; have OWN3 := Lib.hid (own_low7 (OWN.out.alloc _) hb3); clear hb3)
        | (at_builtin; refine wpList_append_own _ rfl _ _ 29 rfl W0.heap.size 59 i0 (.agg #[.string .empty, .int .i64 0, .int .i64 0, .int .i64 0, .float .f64 0, .string .empty, .bool false]) 7 72 Tryz.underlying29 hi hz0 hz1 hz2 rfl (by decide) _ _ _ rfl (OWN3.out.alloc _) ⟨w3.heap.size, 0, none⟩ 1 1 (flatC [⟨cn1, cn2, cn3, cn4, cn5, cn6, cn7⟩]) rfl rfl ?news (flatC_one _) (by unfold maxLen; have := HLEN.out; omega) (by have := HLEN.out; omega) (by have := HB3.out.size; have := HBR.out.size; simp at *; omega) ?_; rotate_left; (case news => exact new_cond w3 _ rfl _ _); intro v' w4 hown' hgrow3 hnil3)
        | fail)
      have hb4 : Below W0.heap.size W0 w4 := Below.grown (btrans (btrans HBR.out (btrans (balloc _ _) HB3.out)) (balloc _ _)) hgrow3 (by have := HB3.out.size; have := HBR.out.size; simp at *; omega) (fun q hq => (OWN3.out.lt q hq).1)
      refine ⟨⟨k + 1, v', by omega, rfl, by go_num, ?_, hb4⟩, by simp [intOf]; go_num⟩
      rw [HSTEP.out, List.length_append, flatC_app]
      exact hown'
    · obtain rfl : k = L.length := by omega
      have own := OWN.out
      rw [List.take_length] at own
      clear OWN HLEN
      have hsl : (L.map canonC).length = L.length := List.length_map ..
      have HBW := Lib.hid hbw
      clear hbr hbw
      by_cases hL0 : 0 < L.length
      · obtain ⟨g, cp, Z, rfl, hgb, hrow⟩ := own_row own (by rw [hsl]; exact hL0)
        have HSZW := HSZ0.out
        have hsm : ∀ c ∈ L.map canonC, CSmall c ∧ 0 ≤ c.op ∧ c.op ≤ 7 := fun c hc => by
          obtain ⟨d, hd, rfl⟩ := List.mem_map.1 hc
          exact canon_small (HS.out d hd)
        have hso := sort_any (L.map canonC) Z g cp w wr HW.out HT.out (by omega) HBW.out hrow (fun c hc => (hsm c hc).1) (by rw [hsl]; exact hlm) (by rw [hsl]; exact hL0)
        have hSl : (sortC (L.map canonC)).length = L.length := by unfold sortC; rw [isort_len, hsl]
        have hSm : ∀ c ∈ sortC (L.map canonC), CSmall c ∧ 0 ≤ c.op ∧ c.op ≤ 7 := fun c hc => hsm c (isort_mem _ _ (by rw [hsl]; omega) c hc)
        have hnorm : normL L = keepC (sortC (L.map canonC)) L.length := rfl
        have hsc : sortC (L.map canonC) = isort (L.map canonC) ((L.map canonC).length - 1) := rfl
        rw [← hsc] at hso
        rw [hsl] at hso ⊢
        have hN2 := HNN.out
        rw [hnorm] at hN2
        generalize sortC (L.map canonC) = S at *
        have HSO := Lib.hid hso; have HSM := Lib.hid hSm; have HSL := Lib.hid hSl; have HN2 := Lib.hid hN2
        clear hN2 hso hSm hSl hsm hnorm hsc own hrow HSZW
        go_wp2_with fail
        refine HSO.out.mono ?_
        rintro e w5 ⟨rfl, hrow5, hb5⟩
        have hb05 : Below W0.heap.size W0 w5 := HBR.out.trans (hb5.mono hgb)
        obtain ⟨x0, x1, x2, x3, x4, x5⟩ := HX.out
        have hcl : ∀ b o, b < W0.heap.size → w5.cell? ⟨b, o, none⟩ = W0.cell? ⟨b, o, none⟩ := fun b o h => hb05.cell (p := ⟨b, o, none⟩) h
        have hfl : ∀ b o, b < W0.heap.size → w5.frozen? ⟨b, o, none⟩ = W0.frozen? ⟨b, o, none⟩ := fun b o h => hb05.frozen (p := ⟨b, o, none⟩) h
        have hz := HSZ0.out
        replace x0 := (hcl _ _ (by omega)).trans x0
        replace x1 := (hcl _ _ (by omega)).trans x1
        replace x2 := (hcl _ _ (by omega)).trans x2
        replace x3 := (hcl _ _ (by omega)).trans x3
        replace x4 := (hfl _ _ (by omega)).trans x4
        replace x5 := (hfl _ _ (by omega)).trans x5
        have hsz5 := hb05.size
        have hw5 : w.heap.size < w5.heap.size := by omega
        have hw51 : w.heap.size + 1 < w5.heap.size := by omega
        have hg5 : g < w5.heap.size := hrow5.lt
        have hgw : w.heap.size + 1 < g := by omega
        have HROW5 := Lib.hid hrow5; have HB05 := Lib.hid hb05; have HGW := Lib.hid hgw
        clear hrow5 hb5 hb05 hcl hfl hz hsz5 hgw HSO HBR HBW HX HSZ0
        go_wp2_with fail
        have HF5 := Lib.hid (And.intro x2 (And.intro x3 (And.intro x4 x5)))
        clear x0 x1 x2 x3 x4 x5
        go_loopw [29] (fun vi wr => ∃ (kk : Nat) (v : Value), kk ≤ L.length ∧ vi = .int .i64 kk ∧ wr.cell? ⟨w5.heap.size, 0, none⟩ = some (.string ⟨sf.toArray⟩) ∧ wr.cell? ⟨w5.heap.size, 1, none⟩ = some v ∧ wr.frozen? ⟨w5.heap.size, 1, none⟩ = false ∧
          wr.ownsRow (w5.heap.size + 1) 59 7 v (keepC S kk).length (flatC (keepC S kk)) ∧ w5.heap.size + 1 ≤ wr.heap.size ∧ Below w5.heap.size w5 wr) (fun vi _ => L.length - (intOf vi).toNat)
        case atStart => refine ⟨0, .slice none 0 0, Nat.zero_le _, rfl, ?_, ?_, ?_, World.ownsRow_nil _ _ _ _, ?_, balloc _ _⟩ <;> simp [go_sem]
        case round =>
          obtain ⟨kk, v, hk, rfl, o0, o1, ofz, hown, hsz, hbr⟩ := hrel
          have hne : w5.heap.size < wr.heap.size := by omega
          have OWN := Lib.hid hown
          clear hown
          have hkl := keepC_len S kk
          by_cases hlt : kk < L.length
          · have i1 : (kk : Int) < (L.length : Int) := by omega
            have i0' : (0 : Int) ≤ (kk : Int) := by omega
            have hkS : kk < S.length := by rw [HSL.out]; exact hlt
            have hrow : Row wr g S Z := HROW5.out.below hbr hg5
            obtain ⟨v0, v1, v2, v3, v4, v5, v6⟩ := hrow.cat kk hkS
            have hnd (W : World) (h : Row W g S Z) := needless_any S Z g cp kk W h hkS (by rw [HSL.out]; omega) (fun c hc => ⟨(HSM.out c hc).2.1, (HSM.out c hc).2.2, (HSM.out c hc).1.2.2.1⟩)
            rw [HSL.out] at hnd
            have hks : keepC S (kk + 1) = keepC S kk ++ (if needB S kk then [] else [S[kk]'hkS]) := by rw [keepC, getElem!_pos S kk hkS]
            generalize (S[kk]'hkS) = x at *
            obtain ⟨cn1, cn2, cn3, cn4, cn5, cn6, cn7⟩ := x
            simp only at v0 v1 v2 v3 v4 v5 v6
            have HND := Lib.hid hnd; have HKS := Lib.hid hks; have HROWR := Lib.hid hrow; have HBR2 := Lib.hid hbr
            clear hnd hks hrow hbr
            have hgr : g < wr.heap.size := HROWR.out.lt
            cases hn : needB S kk
            · rw [hn] at HND HKS
              clear hn
              go_wp2_with (first
                | (go_at_call 31; refine (HND.out _ (HROWR.out.below (balloc _ _) HROWR.out.lt)).mono ?_; rintro e w6 ⟨rfl, hb6⟩; have HB6 := Lib.hid hb6; obtain ⟨hc6, hf6⟩ := bcell hb6)
                | (at_builtin; refine wpList_append_own _ rfl _ _ 29 rfl (w5.heap.size + 1) 59 i0 (.agg #[.string .empty, .int .i64 0, .int .i64 0, .int .i64 0, .float .f64 0, .string .empty, .bool false]) 7 72 Tryz.underlying29 hi hz0 hz1 hz2 rfl (by decide) v _ _ rfl ((own_low7 (OWN.out.alloc _) HB6.out).alloc _) ⟨w6.heap.size, 0, none⟩ 1 1 (flatC [⟨cn1, cn2, cn3, cn4, cn5, cn6, cn7⟩]) rfl rfl ?news (flatC_one _) (by unfold maxLen; omega) (by omega) (by have := HB6.out.size; simp at *; omega) ?_; rotate_left; (case news => exact new_cond w6 _ rfl _ _); intro v' w4 hown' hgrow3 hnil3; have hb7 := btrans (btrans (balloc wr (.cells #[.string ⟨cn1.toArray⟩, .int .i64 cn2, .int .i64 cn3, .int .i64 cn4, .float .f64 cn5, .string ⟨cn6.toArray⟩, .bool cn7] 59)) HB6.out) (balloc w6 (.cells #[.string ⟨cn1.toArray⟩, .int .i64 cn2, .int .i64 cn3, .int .i64 cn4, .float .f64 cn5, .string ⟨cn6.toArray⟩, .bool cn7] 59)); have hsz7 := hb7.size; have hg1 := hgrow3.block w5.heap.size (by omega) (fun h => by have := (OWN.out.lt _ h.symm).1; omega); have p0 := (World.cell?_of_block (a := ⟨w5.heap.size, 0, none⟩) hg1).trans ((hb7.cell (p := ⟨w5.heap.size, 0, none⟩) hne).trans o0); have p1 := (World.cell?_of_block (a := ⟨w5.heap.size, 1, none⟩) hg1).trans ((hb7.cell (p := ⟨w5.heap.size, 1, none⟩) hne).trans o1); have pfz := (World.frozen?_of_block (a := ⟨w5.heap.size, 1, none⟩) hg1).trans ((hb7.frozen (p := ⟨w5.heap.size, 1, none⟩) hne).trans ofz); have hb4 : Below w5.heap.size w5 w4 := Below.grown (HBR2.out.trans (hb7.mono (Nat.le_of_lt hne))) hgrow3 (by omega) (fun q hq => by have := (OWN.out.lt q hq).1; omega); have hsz4 : w5.heap.size + 1 ≤ w4.heap.size := (by have := hgrow3.size; omega); have hown2 : w4.ownsRow (w5.heap.size + 1) 59 7 v' (keepC S kk ++ [(⟨cn1, cn2, cn3, cn4, cn5, cn6, cn7⟩ : C)]).length (flatC (keepC S kk ++ [(⟨cn1, cn2, cn3, cn4, cn5, cn6, cn7⟩ : C)])) := (by rw [flatC_app, List.length_append]; exact hown'); obtain ⟨b1, cp1, hv1, _⟩ := own_conds hown2; subst hv1; have OWN4 := Lib.hid hown2; have HB4 := Lib.hid hb4; clear hown' hown2 hgrow3 hnil3 hb7 hg1 hb4 hc6 hf6)
                | fail)
              refine ⟨⟨kk + 1, _, by omega, by go_num, (World.cell?_setCell_other _ _ _ _ (by simp)).trans p0, World.cell?_setCell_same _ _ _ p1, by rw [World.frozen?_setCell]; exact pfz, ?_, by simpa [World.setCell] using hsz4, HB4.out.setCell (Nat.le_refl _) _⟩, by simp [intOf]; go_num⟩
              have o4 := OWN4.out
              rw [HKS.out]
              have el : (keepC S kk ++ [(⟨cn1, cn2, cn3, cn4, cn5, cn6, cn7⟩ : C)]).length = (keepC S kk).length + 1 := by simp
              rw [el] at o4
              show World.ownsRow _ _ _ _ _ (keepC S kk ++ [(⟨cn1, cn2, cn3, cn4, cn5, cn6, cn7⟩ : C)]).length (flatC (keepC S kk ++ [(⟨cn1, cn2, cn3, cn4, cn5, cn6, cn7⟩ : C)]))
              rw [el]
              exact ownsRow_setCell_below (a := ⟨w5.heap.size, 1, none⟩) o4 (by show w5.heap.size < w5.heap.size + 1; omega) _
            · rw [hn] at HND HKS
              clear hn
              go_wp2_with (first
                | (go_at_call 31; refine (HND.out _ (HROWR.out.below (balloc _ _) HROWR.out.lt)).mono ?_; rintro e w6 ⟨rfl, hb6⟩; have HB6 := Lib.hid hb6; obtain ⟨hc6, hf6⟩ := bcell hb6)
                | fail)
              have hb8 := btrans (balloc wr (.cells #[.string ⟨cn1.toArray⟩, .int .i64 cn2, .int .i64 cn3, .int .i64 cn4, .float .f64 cn5, .string ⟨cn6.toArray⟩, .bool cn7] 59)) HB6.out
              refine ⟨⟨kk + 1, v, by omega, by go_num, (hb8.cell (p := ⟨w5.heap.size, 0, none⟩) hne).trans o0, (hb8.cell (p := ⟨w5.heap.size, 1, none⟩) hne).trans o1, (hb8.frozen (p := ⟨w5.heap.size, 1, none⟩) hne).trans ofz, ?_, Nat.le_trans hsz hb8.size, HBR2.out.trans (hb8.mono (Nat.le_of_lt hne))⟩, by simp [intOf]; go_num⟩
              rw [HKS.out]
              simpa using own_low7 OWN.out hb8
          · obtain rfl : kk = L.length := by omega
            have i1 : ¬ ((L.length : Nat) : Int) < (L.length : Int) := by omega
            have own2 := OWN.out
            rw [HN2.out] at own2
            clear OWN hkl
            obtain ⟨y2, y3, y4, y5⟩ := HF5.out
            have hgw := HGW.out
            have z2 := (hbr.cell (p := ⟨w.heap.size + 1, 0, none⟩) hw51).trans y2
            have z3 := (hbr.cell (p := ⟨w.heap.size + 1, 1, none⟩) hw51).trans y3
            have z4 := (hbr.frozen (p := ⟨w.heap.size + 1, 0, none⟩) hw51).trans y4
            have z5 := (hbr.frozen (p := ⟨w.heap.size + 1, 1, none⟩) hw51).trans y5
            have hbw2 : Below w.heap.size w wr := (HW0.out.trans (HB05.out.mono HW0.out.size)).trans (hbr.mono (by omega))
            obtain ⟨b0, cp0, rfl, hcn⟩ := own_conds own2
            clear y2 y3 y4 y5
            go_wp2
            have e0 : ((wr.setCell ⟨w.heap.size + 1, 0, none⟩ (.string ⟨sf.toArray⟩)).setCell ⟨w.heap.size + 1, 1, none⟩ (.slice b0 N.length cp0)).cell? ⟨w.heap.size + 1, 0, none⟩ = some (.string ⟨sf.toArray⟩) := (World.cell?_setCell_other _ _ _ _ (by simp)).trans (World.cell?_setCell_same _ _ _ z2)
            have e1 : ((wr.setCell ⟨w.heap.size + 1, 0, none⟩ (.string ⟨sf.toArray⟩)).setCell ⟨w.heap.size + 1, 1, none⟩ (.slice b0 N.length cp0)).cell? ⟨w.heap.size + 1, 1, none⟩ = some (.slice b0 N.length cp0) := World.cell?_setCell_same _ _ _ ((World.cell?_setCell_other _ _ _ _ (by simp)).trans z3)
            have ow := ownsRow_setCell_below (a := ⟨w.heap.size + 1, 1, none⟩) (ownsRow_setCell_below (a := ⟨w.heap.size + 1, 0, none⟩) own2 (by show w.heap.size + 1 < w5.heap.size + 1; omega) (.string ⟨sf.toArray⟩)) (by show w.heap.size + 1 < w5.heap.size + 1; omega) (.slice b0 N.length cp0)
            have hbb := (hbw2.setCell (p := ⟨w.heap.size + 1, 0, none⟩) (by simp) (.string ⟨sf.toArray⟩)).setCell (p := ⟨w.heap.size + 1, 1, none⟩) (by simp) (.slice b0 N.length cp0)
            generalize World.setCell _ _ _ = W2 at *
            refine bodyPost_ret (v := ev sf b0 N.length cp0) (by simp [results, Tryz.results16, go_sem, e0, e1]; try rfl) rfl ?_
            obtain ⟨b1, cp1, he, hat2⟩ := own_conds ow
            cases he
            exact ⟨b0, ⟨cp0, rfl⟩, hat2, hbb⟩
      · obtain rfl : L = [] := List.length_eq_zero_iff.1 (by omega)
        obtain ⟨a1, cp1, rfl, _⟩ := own_conds own
        have hN2 : N = [] := HNN.out.symm
        subst hN2
        go_wp2_with fail
        refine (sort_none _ _ _).mono ?_
        rintro e w5 ⟨rfl, hb5⟩
        have hb05 : Below W0.heap.size W0 w5 := btrans HBR.out hb5
        obtain ⟨x0, x1, x2, x3, x4, x5⟩ := HX.out
        have hcl : ∀ b o, b < W0.heap.size → w5.cell? ⟨b, o, none⟩ = W0.cell? ⟨b, o, none⟩ := fun b o h => hb05.cell (p := ⟨b, o, none⟩) h
        have hfl : ∀ b o, b < W0.heap.size → w5.frozen? ⟨b, o, none⟩ = W0.frozen? ⟨b, o, none⟩ := fun b o h => hb05.frozen (p := ⟨b, o, none⟩) h
        have hz := HSZ0.out
        replace x0 := (hcl _ _ (by omega)).trans x0
        replace x1 := (hcl _ _ (by omega)).trans x1
        replace x2 := (hcl _ _ (by omega)).trans x2
        replace x3 := (hcl _ _ (by omega)).trans x3
        replace x4 := (hfl _ _ (by omega)).trans x4
        replace x5 := (hfl _ _ (by omega)).trans x5
        have hsz5 := hb05.size
        have hw5 : w.heap.size < w5.heap.size := by omega
        have hw51 : w.heap.size + 1 < w5.heap.size := by omega
        have hbw5 : Below w.heap.size w w5 := HW0.out.trans (hb05.mono HW0.out.size)
        have HBW5 := Lib.hid hbw5
        clear hb5 hb05 hcl hfl hz hsz5 HBR HBW HX HSZ0 own hsl hbw5
        go_wp2_with fail
        go_loopw [29] (fun vi wr => vi = .int .i64 0 ∧ wr = w5.alloc (.cells #[.string ⟨sf.toArray⟩, .slice none 0 0] 31)) (fun _ _ => 0)
        case atStart => exact ⟨rfl, rfl⟩
        case round =>
          obtain ⟨rfl, rfl⟩ := hrel
          go_wp2_with fail
          have f0 : ((w5.setCell ⟨w.heap.size + 1, 0, none⟩ (.string ⟨sf.toArray⟩)).setCell ⟨w.heap.size + 1, 1, none⟩ (.slice none 0 0)).cell? ⟨w.heap.size + 1, 0, none⟩ = some (.string ⟨sf.toArray⟩) := (World.cell?_setCell_other _ _ _ _ (by simp)).trans (World.cell?_setCell_same _ _ _ x2)
          have f1 : ((w5.setCell ⟨w.heap.size + 1, 0, none⟩ (.string ⟨sf.toArray⟩)).setCell ⟨w.heap.size + 1, 1, none⟩ (.slice none 0 0)).cell? ⟨w.heap.size + 1, 1, none⟩ = some (.slice none 0 0) := World.cell?_setCell_same _ _ _ ((World.cell?_setCell_other _ _ _ _ (by simp)).trans x3)
          have hbb := (HBW5.out.setCell (p := ⟨w.heap.size + 1, 0, none⟩) (by simp) (.string ⟨sf.toArray⟩)).setCell (p := ⟨w.heap.size + 1, 1, none⟩) (by simp) (.slice none 0 0)
          have hlt1 : w.heap.size + 1 < ((w5.setCell ⟨w.heap.size + 1, 0, none⟩ (.string ⟨sf.toArray⟩)).setCell ⟨w.heap.size + 1, 1, none⟩ (.slice none 0 0)).heap.size := by simpa [World.setCell] using hw51
          generalize ((w5.setCell ⟨w.heap.size + 1, 0, none⟩ (.string ⟨sf.toArray⟩)).setCell ⟨w.heap.size + 1, 1, none⟩ (.slice none 0 0)) = W1 at *
          have e0 : (W1.alloc (.cells #[.string ⟨sf.toArray⟩, .slice none 0 0] 31)).cell? ⟨w.heap.size + 1, 0, none⟩ = some (.string ⟨sf.toArray⟩) := ((balloc W1 _).cell (p := ⟨w.heap.size + 1, 0, none⟩) hlt1).trans f0
          have e1 : (W1.alloc (.cells #[.string ⟨sf.toArray⟩, .slice none 0 0] 31)).cell? ⟨w.heap.size + 1, 1, none⟩ = some (.slice none 0 0) := ((balloc W1 _).cell (p := ⟨w.heap.size + 1, 1, none⟩) hlt1).trans f1
          have hbz := btrans hbb (balloc W1 (.cells #[.string ⟨sf.toArray⟩, .slice none 0 0] 31))
          generalize World.alloc _ _ = W2 at *
          refine bodyPost_ret (v := ev sf none 0 0) (by simp [results, Tryz.results16, go_sem, e0, e1]; try rfl) rfl ?_
          exact ⟨none, 0, rfl, conds_nil _ _, hbz⟩
end Go.Proofs.YtfkedobofamkiaaGreatDoor.Val
end

section
/- THE WALK OF filter.Print, over whatever cond.Print writes. -/
namespace Go.Proofs.YtfkedobofamkiaaGreatDoor.Val
open Go.RowKit Flt
attribute [local go_sem] run_store_flt
def fprK (sc : List UInt8) (l : List C) (pr : C → List UInt8) : Nat → List UInt8
  | 0 => sc ++ [58]
  | k + 1 => (fprK sc l pr k ++ (if k = 0 then [] else [32, 38])) ++ ([32] ++ pr l[k]!)
theorem fprK_len (sc : List UInt8) (l : List C) (pr : C → List UInt8) (B : Nat) (k : Nat) (h : ∀ i, i < k → (pr l[i]!).length ≤ B) : (fprK sc l pr k).length ≤ sc.length + 1 + k * (B + 3) := by
  induction k with
  | zero => simp [fprK]
  | succ k ih =>
    have h1 := ih (fun i hi => h i (by omega))
    have h2 := h k (by omega)
    unfold fprK
    simp only [List.length_append, List.length_cons, List.length_nil]
    have h3 : (if k = 0 then ([] : List UInt8) else [32, 38]).length ≤ 2 := by split <;> simp
    rw [Nat.succ_mul]
    omega
end Go.Proofs.YtfkedobofamkiaaGreatDoor.Val
end

section
/- THE WALK OF filter.Key. -/
namespace Go.Proofs.YtfkedobofamkiaaGreatDoor.Val
open Go.RowKit Flt
theorem keepC_mem (S : List C) : ∀ k, k ≤ S.length → ∀ c ∈ keepC S k, c ∈ S
  | 0, _, c, h => by cases h
  | k + 1, hk, c, h => by
    rw [keepC] at h
    rcases List.mem_append.1 h with h | h
    · exact keepC_mem S k (by omega) c h
    · split at h
      · cases h
      · rw [List.mem_singleton, getElem!_pos S k (by omega)] at h
        rw [h]; exact List.getElem_mem _
theorem normL_mem (L : List C) : ∀ c ∈ normL L, ∃ d ∈ L, c = canonC d := fun c hc => by
  have h1 : (L.map canonC).length = L.length := List.length_map ..
  have h := keepC_mem _ _ (by unfold sortC; rw [isort_len, h1]; exact Nat.le_refl _) c hc
  cases L with
  | nil => cases h
  | cons a l =>
    have h2 := isort_mem _ _ (by rw [h1]; simp) c h
    obtain ⟨d, hd, e⟩ := List.mem_map.1 h2
    exact ⟨d, hd, e.symm⟩
theorem normL_len (L : List C) : (normL L).length ≤ L.length := keepC_len _ _
/-- a filter's key -/
def keyT (sf : List UInt8) (L : List C) : List UInt8 := fprK sf (normL L) cT (normL L).length
end Go.Proofs.YtfkedobofamkiaaGreatDoor.Val
end

section
/- VALUES THAT ARE NOT THE SAME HAVE TEXTS THAT ARE NOT, whatever stands behind; those that are the same have one. No walk. -/
namespace Go.Proofs.YtfkedobofamkiaaGreatDoor.Val
open Go.RowKit Flt
theorem nan_iff (b : Nat) : nan b = true ↔ 9218868437227405312 < b % 9223372036854775808 := by
  unfold nan rung inf
  rw [decide_eq_true_eq]
theorem zero_iff2 (b : Nat) : Ord.zero b = true ↔ b % 9223372036854775808 = 0 := by
  rw [Ord.zero_iff]
  unfold rung
  rw [decide_eq_true_eq]
/-- numbers with one key are kept alike, and others are not -/
theorem key_canon (a b : Nat) (ha : a < 18446744073709551616) (hb : b < 18446744073709551616) : Ord.key a = Ord.key b ↔ Ord.canon a = Ord.canon b := by
  unfold Ord.key Ord.canon Ord.most Ord.top Ord.nan0
  have na := nan_iff a; have nb := nan_iff b; have za := zero_iff2 a; have zb := zero_iff2 b
  cases h1 : nan a <;> cases h2 : nan b <;> cases h3 : Ord.zero a <;> cases h4 : Ord.zero b <;>
    rw [h1] at na <;> rw [h2] at nb <;> rw [h3] at za <;> rw [h4] at zb <;>
    simp only [Bool.false_eq_true, if_false, if_true] <;>
    (try split) <;> (try split) <;> simp at na nb za zb <;> omega
theorem canon_bits (x : Nat) (hx : x < 18446744073709551616) : Ord.canon x < 18446744073709551616 ∧
    ((Ord.canon x = 9221120237041090561) ∨ (Fmt.bexp (Ord.canon x) ≤ 2046) ∨ (Fmt.bexp (Ord.canon x) = 2047 ∧ Fmt.bman (Ord.canon x) = 0)) := by
  refine ⟨canon_lt x hx, ?_⟩
  have na := nan_iff x
  unfold Ord.canon Ord.nan0
  cases h1 : nan x
  · rw [h1] at na
    have : ¬ 9218868437227405312 < x % 9223372036854775808 := fun h => by have := na.2 h; cases this
    simp only [Bool.false_eq_true, if_false]
    split
    · right; left; decide
    · right
      unfold Fmt.bexp Fmt.bman
      omega
  · left; rfl
/-- a text without a blank and not quoted -/
def Bare (t : List UInt8) : Prop := t ≠ [] ∧ (∀ c ∈ t, c ≠ 32) ∧ ∀ r, t ≠ 34 :: r
/-- what may stand behind: nothing, or a blank first -/
def Tail (s : List UInt8) : Prop := s = [] ∨ ∃ r, s = 32 :: r
theorem bare_apart : ∀ (t u s r : List UInt8), (∀ c ∈ t, c ≠ 32) → (∀ c ∈ u, c ≠ 32) → Tail s → Tail r → t ++ s = u ++ r → t = u ∧ s = r
  | [], [], _, _, _, _, _, _, h => ⟨rfl, h⟩
  | [], c :: u, s, r, _, hu, hs, _, h => by
    exfalso
    rcases hs with rfl | ⟨q, rfl⟩
    · cases h
    · exact hu c (List.mem_cons_self ..) (List.cons.inj h).1.symm
  | c :: t, [], s, r, ht, _, _, hr, h => by
    exfalso
    rcases hr with rfl | ⟨q, rfl⟩
    · cases h
    · exact ht c (List.mem_cons_self ..) (List.cons.inj h).1
  | c :: t, d :: u, s, r, ht, hu, hs, hr, h => by
    obtain ⟨h1, h2⟩ := List.cons.inj h
    obtain ⟨i1, i2⟩ := bare_apart t u s r (fun x hx => ht x (List.mem_cons_of_mem _ hx)) (fun x hx => hu x (List.mem_cons_of_mem _ hx)) hs hr h2
    exact ⟨by rw [h1, i1], i2⟩
/-- a whole number's text: digits, a sign ahead -/
theorem itoa_chr (n : Int) : ∀ c ∈ Lib.itoa n, Fmt.IsD c ∨ c = 45 := by
  intro c hc
  unfold Lib.itoa at hc
  split at hc
  · rcases List.mem_cons.1 hc with rfl | hc
    · exact .inr rfl
    · exact .inl ((Fmt.decDigits_val _).2 c hc)
  · exact .inl ((Fmt.decDigits_val _).2 c hc)
theorem dec_ne (u : Nat) : Lib.decDigits u ≠ [] := by
  intro h
  have := Lib.decDigits_length u
  rw [h] at this
  have := Lib.nDigits_pos u
  simp at *
  omega
theorem itoa_ne (n : Int) : Lib.itoa n ≠ [] := by
  unfold Lib.itoa
  split
  · exact List.cons_ne_nil _ _
  · exact dec_ne _
theorem itoa_inj (n m : Int) (h : Lib.itoa n = Lib.itoa m) : n = m := by
  have dv := fun u => (Fmt.decDigits_val u).1
  have nod : ∀ u v, 45 :: Lib.decDigits u ≠ Lib.decDigits v := fun u v e => by
    have := (Fmt.decDigits_val v).2 45 (by rw [← e]; exact List.mem_cons_self ..)
    unfold Fmt.IsD at this
    simp at this
  unfold Lib.itoa at h
  split at h <;> split at h
  · have h2 := congrArg Fmt.dval (List.cons.inj h).2
    rw [dv, dv] at h2
    omega
  · exact absurd h (nod _ _)
  · exact absurd h.symm (nod _ _)
  · have h2 := congrArg Fmt.dval h
    rw [dv, dv] at h2
    omega
/-- what a number's text is, by its kind -/
theorem flt_ways (x : Nat) (hx : x < 18446744073709551616) :
    (Fmt.fltT (Ord.canon x) = [78, 97, 78] ∧ Ord.canon x = 9221120237041090561) ∨
    (Fmt.fltT (Ord.canon x) = [45, 73, 110, 102] ∧ Ord.canon x = 18442240474082181120) ∨ (Fmt.fltT (Ord.canon x) = [43, 73, 110, 102] ∧ Ord.canon x = 9218868437227405312) ∨
    (Fmt.bexp (Ord.canon x) ≤ 2046 ∧ ∃ X, Fmt.fltT (Ord.canon x) = Fmt.sgn (Fmt.bneg (Ord.canon x)) ++ X ∧ (∃ c r, X = c :: r ∧ Fmt.IsD c) ∧ ∀ c ∈ X, Fmt.IsN c) := by
  obtain ⟨hl, h⟩ := canon_bits x hx
  generalize Ord.canon x = b at *
  rcases h with rfl | h | ⟨h1, h2⟩
  · left
    exact ⟨Fmt.fltT_nan _ (by decide) (by decide), rfl⟩
  · right; right; right
    obtain ⟨X, hX⟩ := Fmt.body_fin b h
    exact ⟨h, X, hX.txt, hX.head, hX.chr⟩
  · have ht := Fmt.fltT_inf b h1 h2
    cases hn : Fmt.bneg b
    · right; right; left
      rw [hn] at ht
      refine ⟨ht, ?_⟩
      unfold Fmt.bneg at hn
      unfold Fmt.bexp at h1
      unfold Fmt.bman at h2
      simp at hn
      omega
    · right; left
      rw [hn] at ht
      refine ⟨ht, ?_⟩
      unfold Fmt.bneg at hn
      unfold Fmt.bexp at h1
      unfold Fmt.bman at h2
      simp at hn
      omega
theorem isN_ne {c : UInt8} (h : Fmt.IsN c) (k : UInt8) (hk : k.toNat < 43 ∨ (57 < k.toNat ∧ k.toNat ≠ 101)) : c ≠ k := by
  rintro rfl
  rcases h with h | h | h | h | h
  · unfold Fmt.IsD at h; omega
  all_goals (subst h; revert hk; decide)
theorem flt_bare (x : Nat) (hx : x < 18446744073709551616) : Bare (Fmt.fltT (Ord.canon x)) ∧ (∀ r, Fmt.fltT (Ord.canon x) ≠ 121 :: r) ∧ (∀ r, Fmt.fltT (Ord.canon x) ≠ 110 :: r) ∧ ∃ c ∈ Fmt.fltT (Ord.canon x), ¬ (Fmt.IsD c ∨ c = 45) := by
  have hmk : ∃ c ∈ Fmt.fltT (Ord.canon x), ¬ (Fmt.IsD c ∨ c = 45) := by
    have key : ∀ c : UInt8, c = 46 ∨ c = 101 ∨ c = 73 ∨ c = 78 → ¬ (Fmt.IsD c ∨ c = 45) := by
      intro c hc h
      rcases hc with rfl | rfl | rfl | rfl <;> rcases h with h | h <;> first | (unfold Fmt.IsD at h; simp at h) | (revert h; decide)
    unfold Fmt.fltT
    cases hm : Fmt.marked (Fmt.ftoaT (Ord.canon x))
    · simp only [Bool.false_eq_true, if_false]
      exact ⟨46, by simp, key 46 (.inl rfl)⟩
    · simp only [if_true]
      obtain ⟨c, hc, hk⟩ := (Fmt.marked_iff _).1 hm
      exact ⟨c, hc, key c hk⟩
  rcases flt_ways x hx with ⟨h, _⟩ | ⟨h, _⟩ | ⟨h, _⟩ | ⟨_, X, h, ⟨c, r, hX, hc⟩, hN⟩
  · refine ⟨⟨?_, ?_, ?_⟩, ?_, ?_, hmk⟩ <;> rw [h]
    · exact List.cons_ne_nil _ _
    · intro c hc; simp only [List.mem_cons, List.not_mem_nil, or_false] at hc; rcases hc with rfl | rfl | rfl <;> decide
    all_goals (intro r e; have := (List.cons.inj e).1; revert this; decide)
  · refine ⟨⟨?_, ?_, ?_⟩, ?_, ?_, hmk⟩ <;> rw [h]
    · exact List.cons_ne_nil _ _
    · intro c hc; simp only [List.mem_cons, List.not_mem_nil, or_false] at hc; rcases hc with rfl | rfl | rfl | rfl <;> decide
    all_goals (intro r e; have := (List.cons.inj e).1; revert this; decide)
  · refine ⟨⟨?_, ?_, ?_⟩, ?_, ?_, hmk⟩ <;> rw [h]
    · exact List.cons_ne_nil _ _
    · intro c hc; simp only [List.mem_cons, List.not_mem_nil, or_false] at hc; rcases hc with rfl | rfl | rfl | rfl <;> decide
    all_goals (intro r e; have := (List.cons.inj e).1; revert this; decide)
  · have hd : ∀ k : UInt8, k.toNat < 48 ∨ 57 < k.toNat → c ≠ k := fun k hk => Fmt.isD_ne hc k hk
    have hs : ∀ c ∈ Fmt.sgn (Fmt.bneg (Ord.canon x)), c = 45 := by
      intro c hc
      unfold Fmt.sgn at hc
      split at hc
      · exact List.mem_singleton.1 hc
      · cases hc
    have first : ∀ k : UInt8, k ≠ 45 → (k.toNat < 48 ∨ 57 < k.toNat) → ∀ r, Fmt.fltT (Ord.canon x) ≠ k :: r := by
      intro k h45 hk r e
      rw [h, hX] at e
      unfold Fmt.sgn at e
      split at e
      · exact h45 (List.cons.inj e).1.symm
      · exact hd k hk (List.cons.inj e).1
    refine ⟨⟨?_, ?_, first 34 (by decide) (by decide)⟩, first 121 (by decide) (by decide), first 110 (by decide) (by decide), hmk⟩
    · rw [h, hX]
      unfold Fmt.sgn
      split <;> exact List.cons_ne_nil _ _
    · intro d hd2
      rw [h] at hd2
      rcases List.mem_append.1 hd2 with hd2 | hd2
      · rw [hs d hd2]; decide
      · exact isN_ne (hN d hd2) 32 (by decide)
theorem flt_inj (x y : Nat) (hx : x < 18446744073709551616) (hy : y < 18446744073709551616) (h : Fmt.fltT (Ord.canon x) = Fmt.fltT (Ord.canon y)) : Ord.canon x = Ord.canon y := by
  have hd : ∀ {c : UInt8}, Fmt.IsD c → ∀ k : UInt8, k.toNat < 48 ∨ 57 < k.toNat → c ≠ k := fun hc k hk => Fmt.isD_ne hc k hk
  have fin : ∀ (b : Nat) (X : List UInt8) (c : UInt8) (r : List UInt8), X = c :: r → Fmt.IsD c → ∀ t, Fmt.fltT b = Fmt.sgn (Fmt.bneg b) ++ X → Fmt.fltT b = t → t ≠ [78, 97, 78] ∧ t ≠ [45, 73, 110, 102] ∧ t ≠ [43, 73, 110, 102] := by
    intro b X c r hX hc t ht e
    rw [ht, hX] at e
    unfold Fmt.sgn at e
    refine ⟨?_, ?_, ?_⟩ <;> rintro rfl <;> split at e
    · exact absurd (List.cons.inj e).1 (by decide)
    · exact hd hc 78 (by decide) (List.cons.inj e).1
    · exact hd hc 73 (by decide) (List.cons.inj (List.cons.inj e).2).1
    · exact hd hc 45 (by decide) (List.cons.inj e).1
    · exact absurd (List.cons.inj e).1 (by decide)
    · exact hd hc 43 (by decide) (List.cons.inj e).1
  rcases flt_ways x hx with ⟨h1, e1⟩ | ⟨h1, e1⟩ | ⟨h1, e1⟩ | ⟨f1, X, h1, ⟨c, r, hX, hc⟩, _⟩ <;>
    rcases flt_ways y hy with ⟨h2, e2⟩ | ⟨h2, e2⟩ | ⟨h2, e2⟩ | ⟨f2, Y, h2, ⟨d, q, hY, hd2⟩, _⟩
  · rw [e1, e2]
  · rw [h1, h2] at h; exact absurd h (by decide)
  · rw [h1, h2] at h; exact absurd h (by decide)
  · exact absurd h1 (fin _ Y d q hY hd2 _ h2 h.symm).1
  · rw [h1, h2] at h; exact absurd h (by decide)
  · rw [e1, e2]
  · rw [h1, h2] at h; exact absurd h (by decide)
  · exact absurd h1 (fin _ Y d q hY hd2 _ h2 h.symm).2.1
  · rw [h1, h2] at h; exact absurd h (by decide)
  · rw [h1, h2] at h; exact absurd h (by decide)
  · rw [e1, e2]
  · exact absurd h1 (fin _ Y d q hY hd2 _ h2 h.symm).2.2
  · exact absurd h2 (fin _ X c r hX hc _ h1 h).1
  · exact absurd h2 (fin _ X c r hX hc _ h1 h).2.1
  · exact absurd h2 (fin _ X c r hX hc _ h1 h).2.2
  · exact Fmt.fltT_fin _ _ (canon_lt x hx) (canon_lt y hy) f1 f2 h
/-- a value that may be -/
def VOk (v : V) : Prop := 0 ≤ v.kind ∧ v.kind ≤ 3 ∧ v.num < 18446744073709551616
theorem vT_ways (v : V) (h : VOk v) : (v.kind = 0 ∧ vT v = Lib.itoa v.int) ∨ (v.kind = 1 ∧ vT v = Fmt.fltT (Ord.canon v.num)) ∨ (v.kind = 2 ∧ vT v = Quo.quoteT Lib.goPrintTabs v.text) ∨ (v.kind = 3 ∧ vT v = if v.yes then yesT else noT) := by
  obtain ⟨k, n, x, t, y⟩ := v
  obtain ⟨h0, h3, _⟩ := h
  simp only at h0 h3
  rcases (show k = 0 ∨ k = 1 ∨ k = 2 ∨ k = 3 by omega) with rfl | rfl | rfl | rfl
  · exact .inl ⟨rfl, rfl⟩
  · exact .inr (.inl ⟨rfl, rfl⟩)
  · exact .inr (.inr (.inl ⟨rfl, rfl⟩))
  · exact .inr (.inr (.inr ⟨rfl, rfl⟩))
theorem itoa_bare (n : Int) : Bare (Lib.itoa n) ∧ (∀ r, Lib.itoa n ≠ 121 :: r) ∧ (∀ r, Lib.itoa n ≠ 110 :: r) := by
  have key : ∀ k : UInt8, k ≠ 45 → (k.toNat < 48 ∨ 57 < k.toNat) → ∀ c ∈ Lib.itoa n, c ≠ k := fun k h45 hk c hc => by
    rcases itoa_chr n c hc with h | h
    · exact Fmt.isD_ne h k hk
    · rw [h]; exact fun e => h45 e.symm
  have first : ∀ k : UInt8, k ≠ 45 → (k.toNat < 48 ∨ 57 < k.toNat) → ∀ r, Lib.itoa n ≠ k :: r := fun k h45 hk r e => key k h45 hk k (by rw [e]; exact List.mem_cons_self ..) rfl
  exact ⟨⟨itoa_ne n, key 32 (by decide) (by decide), first 34 (by decide) (by decide)⟩, first 121 (by decide) (by decide), first 110 (by decide) (by decide)⟩
theorem bool_bare (y : Bool) : Bare (if y then yesT else noT) ∧ ∃ c r, (if y then yesT else noT) = c :: r ∧ (c = 121 ∨ c = 110) := by
  cases y
  · refine ⟨⟨by decide, by decide, ?_⟩, 110, _, rfl, .inr rfl⟩
    intro r e; have := (List.cons.inj e).1; revert this; decide
  · refine ⟨⟨by decide, by decide, ?_⟩, 121, _, rfl, .inl rfl⟩
    intro r e; have := (List.cons.inj e).1; revert this; decide
/-- VALUES' TEXTS TELL THEM APART, whatever stands behind -/
theorem vT_apart (v u : V) (hv : VOk v) (hu : VOk u) (s r : List UInt8) (hs : Tail s) (hr : Tail r) (h : vT v ++ s = vT u ++ r) : sameB v u = true ∧ s = r := by
  have bb : ∀ t w : List UInt8, Bare t → Bare w → t ++ s = w ++ r → t = w ∧ s = r := fun t w ht hw e => bare_apart t w s r ht.2.1 hw.2.1 hs hr e
  have quo : ∀ (l : List UInt8) (w : List UInt8) (s r : List UInt8), Bare w → Quo.quoteT Lib.goPrintTabs l ++ s = w ++ r → False := by
    intro l w s r hw e
    obtain ⟨q, hq⟩ := Quo.quoteT_head Lib.goPrintTabs l
    cases w with
    | nil => exact hw.1 rfl
    | cons c w =>
      rw [hq] at e
      exact hw.2.2 w (by rw [(List.cons.inj e).1])
  rcases vT_ways v hv with ⟨k1, e1⟩ | ⟨k1, e1⟩ | ⟨k1, e1⟩ | ⟨k1, e1⟩ <;> rcases vT_ways u hu with ⟨k2, e2⟩ | ⟨k2, e2⟩ | ⟨k2, e2⟩ | ⟨k2, e2⟩ <;> rw [e1, e2] at h
  · obtain ⟨h1, h2⟩ := bb _ _ (itoa_bare _).1 (itoa_bare _).1 h
    refine ⟨?_, h2⟩
    have := itoa_inj _ _ h1
    unfold sameB; rw [k1, k2, this]; simp
  · exfalso
    obtain ⟨h1, _⟩ := bb _ _ (itoa_bare _).1 (flt_bare _ hu.2.2).1 h
    obtain ⟨c, hc, hn⟩ := (flt_bare _ hu.2.2).2.2.2
    exact hn (itoa_chr _ c (by rw [h1]; exact hc))
  · exact absurd h.symm (fun e => quo _ _ _ _ (itoa_bare _).1 e)
  · exfalso
    obtain ⟨h1, _⟩ := bb _ _ (itoa_bare _).1 (bool_bare _).1 h
    obtain ⟨c, q, e, hc⟩ := (bool_bare u.yes).2
    rw [e] at h1
    rcases hc with rfl | rfl
    · exact (itoa_bare _).2.1 _ h1
    · exact (itoa_bare _).2.2 _ h1
  · exfalso
    obtain ⟨h1, _⟩ := bb _ _ (flt_bare _ hv.2.2).1 (itoa_bare _).1 h
    obtain ⟨c, hc, hn⟩ := (flt_bare _ hv.2.2).2.2.2
    exact hn (itoa_chr _ c (by rw [← h1]; exact hc))
  · obtain ⟨h1, h2⟩ := bb _ _ (flt_bare _ hv.2.2).1 (flt_bare _ hu.2.2).1 h
    refine ⟨?_, h2⟩
    have := (key_canon _ _ hv.2.2 hu.2.2).2 (flt_inj _ _ hv.2.2 hu.2.2 h1)
    unfold sameB Ord.same; rw [k1, k2, this]; simp
  · exact absurd h.symm (fun e => quo _ _ _ _ (flt_bare _ hv.2.2).1 e)
  · exfalso
    obtain ⟨h1, _⟩ := bb _ _ (flt_bare _ hv.2.2).1 (bool_bare _).1 h
    obtain ⟨c, q, e, hc⟩ := (bool_bare u.yes).2
    rw [e] at h1
    rcases hc with rfl | rfl
    · exact (flt_bare _ hv.2.2).2.1 _ h1
    · exact (flt_bare _ hv.2.2).2.2.1 _ h1
  · exact absurd h (fun e => quo _ _ _ _ (itoa_bare _).1 e)
  · exact absurd h (fun e => quo _ _ _ _ (flt_bare _ hu.2.2).1 e)
  · obtain ⟨h1, h2⟩ := Quo.quoteT_apart _ _ _ _ _ h
    refine ⟨?_, h2⟩
    unfold sameB; rw [k1, k2, h1]; simp
  · exact absurd h (fun e => quo _ _ _ _ (bool_bare _).1 e)
  · exfalso
    obtain ⟨h1, _⟩ := bb _ _ (bool_bare _).1 (itoa_bare _).1 h
    obtain ⟨c, q, e, hc⟩ := (bool_bare v.yes).2
    rw [e] at h1
    rcases hc with rfl | rfl
    · exact (itoa_bare _).2.1 _ h1.symm
    · exact (itoa_bare _).2.2 _ h1.symm
  · exfalso
    obtain ⟨h1, _⟩ := bb _ _ (bool_bare _).1 (flt_bare _ hu.2.2).1 h
    obtain ⟨c, q, e, hc⟩ := (bool_bare v.yes).2
    rw [e] at h1
    rcases hc with rfl | rfl
    · exact (flt_bare _ hu.2.2).2.1 _ h1.symm
    · exact (flt_bare _ hu.2.2).2.2.1 _ h1.symm
  · exact absurd h.symm (fun e => quo _ _ _ _ (bool_bare _).1 e)
  · obtain ⟨h1, h2⟩ := bb _ _ (bool_bare _).1 (bool_bare _).1 h
    refine ⟨?_, h2⟩
    have : v.yes = u.yes := by
      cases hv2 : v.yes <;> cases hu2 : u.yes <;> rw [hv2, hu2] at h1 <;> first | rfl | (revert h1; decide)
    unfold sameB; rw [k1, k2, this]; simp
/-- values that are the same have one text -/
theorem vT_same (v u : V) (hv : VOk v) (hu : VOk u) (h : sameB v u = true) : vT v = vT u := by
  unfold sameB at h
  rw [Bool.and_eq_true, beq_iff_eq] at h
  obtain ⟨hk, h⟩ := h
  rcases vT_ways v hv with ⟨k1, e1⟩ | ⟨k1, e1⟩ | ⟨k1, e1⟩ | ⟨k1, e1⟩ <;> rcases vT_ways u hu with ⟨k2, e2⟩ | ⟨k2, e2⟩ | ⟨k2, e2⟩ | ⟨k2, e2⟩ <;> first | (exfalso; omega) | skip
  · rw [k1] at h
    rw [e1, e2]
    congr 1
    simpa using h
  · rw [k1] at h
    rw [e1, e2]
    unfold Ord.same at h
    rw [(key_canon _ _ hv.2.2 hu.2.2).1 (by simpa using h)]
  · rw [k1] at h
    rw [e1, e2]
    congr 1
    simpa using h
  · rw [k1] at h
    rw [e1, e2]
    have : v.yes = u.yes := by simpa using h
    rw [this]
end Go.Proofs.YtfkedobofamkiaaGreatDoor.Val
end

section
/- WHAT A FILTER IS BROUGHT TO: its conditions in order; the order in which they came, and doubles, play no part. No walk. -/
namespace Go.Proofs.YtfkedobofamkiaaGreatDoor.Val
open Go.RowKit Flt
/-- into a row that falls -/
def insr : List C → C → List C
  | [], x => [x]
  | y :: Q, x => if cmpC x y < 0 then y :: insr Q x else x :: y :: Q
theorem insr_perm : ∀ (Q : List C) (x : C), List.Perm (insr Q x) (x :: Q)
  | [], x => List.Perm.refl _
  | y :: Q, x => by
    unfold insr
    split
    · exact ((insr_perm Q x).cons y).trans (List.Perm.swap x y Q)
    · exact List.Perm.refl _
theorem bub_insr : ∀ (Q : List C) (x : C) (R : List C), bub (Q.reverse ++ x :: R) Q.length = (insr Q x).reverse ++ R
  | [], x, R => rfl
  | y :: Q, x, R => by
    have hlen : ((y :: Q).reverse ++ x :: R).length = Q.length + 1 + 1 + R.length := by simp; omega
    have e : (y :: Q).reverse ++ x :: R = Q.reverse ++ y :: x :: R := by simp
    have g1 : (Q.reverse ++ y :: x :: R)[Q.length + 1]! = x := by
      rw [getElem!_pos _ _ (by simp)]
      rw [List.getElem_append_right (by simp)]
      simp
    have g0 : (Q.reverse ++ y :: x :: R)[Q.length]! = y := by
      rw [getElem!_pos _ _ (by simp)]
      rw [List.getElem_append_right (by simp)]
      simp
    rw [e, List.length_cons, bub, g1, g0]
    unfold insr
    split
    · have hs : swp (Q.reverse ++ y :: x :: R) Q.length = Q.reverse ++ x :: y :: R := by
        unfold swp
        rw [g1, g0]
        rw [List.set_append_right _ _ (by simp), List.set_append_right _ _ (by simp)]
        simp
      rw [hs, bub_insr Q x (y :: R)]
      simp
    · simp
theorem isort_insr (L : List C) : ∀ i, i < L.length → isort L i = ((L.take (i + 1)).foldl insr []).reverse ++ L.drop (i + 1)
  | 0, h => by
    cases L with
    | nil => simp at h
    | cons a l => simp [isort, insr]
  | i + 1, h => by
    rw [isort, isort_insr L i (by omega)]
    have hd : L.drop (i + 1) = L[i + 1] :: L.drop (i + 2) := List.drop_eq_getElem_cons h
    have hl : ((L.take (i + 1)).foldl insr []).length = i + 1 := by
      have : ∀ (l : List C) (acc : List C), (l.foldl insr acc).length = acc.length + l.length := by
        intro l
        induction l with
        | nil => intro acc; simp
        | cons a l ih => intro acc; rw [List.foldl_cons, ih, (insr_perm acc a).length_eq]; simp; omega
      rw [this, List.length_take]
      simp; omega
    rw [hd]
    have := bub_insr ((L.take (i + 1)).foldl insr []) L[i + 1] (L.drop (i + 2))
    rw [hl] at this
    rw [this, List.take_succ_eq_append_getElem h, List.foldl_append]
    rfl
theorem sortC_insr (L : List C) : sortC L = (L.foldl insr []).reverse := by
  unfold sortC
  cases L with
  | nil => rfl
  | cons a l =>
    rw [isort_insr _ _ (by simp)]
    have e : (a :: l).length - 1 + 1 = (a :: l).length := by simp
    rw [e, List.take_length, List.drop_length, List.append_nil]
/-- not behind -/
def leC (a b : C) : Prop := ¬ cmpC b a < 0
theorem leC_of_lt {a b : C} (h : cmpC a b < 0) : leC a b := fun h2 => by
  have := (cb_anti (cT a) (cT b)).1.1 h
  unfold cmpC at h2
  omega
theorem leC_trans {a b c : C} (h1 : leC a b) (h2 : leC b c) : leC a c := by
  unfold leC cmpC at *
  intro h
  rcases Int.lt_trichotomy (Lib.compareBytes (cT a) (cT b)) 0 with k | k | k
  · exact h2 (cb_trans h k)
  · have e : cT a = cT b := (cb_zero _ _).1 k
    rw [e] at h
    exact h2 h
  · exact h1 ((cb_anti (cT b) (cT a)).1.2 k)
theorem leC_anti {a b : C} (h1 : leC a b) (h2 : leC b a) : cT a = cT b := by
  unfold leC cmpC at *
  rcases Int.lt_trichotomy (Lib.compareBytes (cT a) (cT b)) 0 with k | k | k
  · exact absurd k h2
  · exact (cb_zero _ _).1 k
  · exact absurd ((cb_anti (cT b) (cT a)).1.2 k) h1
theorem insr_falls : ∀ (Q : List C) (x : C), Q.Pairwise (fun a b => leC b a) → (insr Q x).Pairwise (fun a b => leC b a)
  | [], x, _ => by simp [insr]
  | y :: Q, x, h => by
    obtain ⟨h1, h2⟩ := List.pairwise_cons.1 h
    unfold insr
    split
    · rename_i hlt
      refine List.pairwise_cons.2 ⟨fun z hz => ?_, insr_falls Q x h2⟩
      rcases List.mem_cons.1 ((insr_perm Q x).subset hz) with rfl | hz
      · exact leC_of_lt hlt
      · exact h1 z hz
    · rename_i hge
      refine List.pairwise_cons.2 ⟨fun z hz => ?_, h⟩
      rcases List.mem_cons.1 hz with rfl | hz
      · exact hge
      · exact leC_trans (h1 z hz) hge
theorem foldl_falls : ∀ (l acc : List C), acc.Pairwise (fun a b => leC b a) → (l.foldl insr acc).Pairwise (fun a b => leC b a)
  | [], _, h => h
  | a :: l, acc, h => foldl_falls l _ (insr_falls acc a h)
theorem foldl_perm : ∀ (l acc : List C), List.Perm (l.foldl insr acc) (l ++ acc)
  | [], _ => List.Perm.refl _
  | a :: l, acc => (foldl_perm l (insr acc a)).trans (((insr_perm acc a).append_left l).trans (List.perm_middle))
theorem sortC_perm (L : List C) : List.Perm (sortC L) L := by
  rw [sortC_insr]
  have := foldl_perm L []
  rw [List.append_nil] at this
  exact (List.reverse_perm _).trans this
theorem sortC_rises (L : List C) : (sortC L).Pairwise leC := by
  rw [sortC_insr, List.pairwise_reverse]
  exact foldl_falls L [] List.Pairwise.nil
/-- a condition as it is kept, that may be -/
def CKept (c : C) : Prop := ∃ d : C, cRight d = true ∧ d.val.num < 18446744073709551616 ∧ c = canonC d
theorem word_no32 : ∀ n : Nat, n ≤ 7 → ∀ c ∈ wordL n, c ≠ 32 := by decide
theorem word_inj : ∀ n : Nat, n ≤ 6 → ∀ m : Nat, m ≤ 6 → wordL n = wordL m → n = m := by decide
theorem cut32 : ∀ (n m s t : List UInt8), (∀ c ∈ n, c ≠ 32) → (∀ c ∈ m, c ≠ 32) → n ++ 32 :: s = m ++ 32 :: t → n = m ∧ s = t := fun n m s t hn hm h => by
  have := bare_apart n m (32 :: s) (32 :: t) hn hm (.inr ⟨s, rfl⟩) (.inr ⟨t, rfl⟩) h
  exact ⟨this.1, (List.cons.inj this.2).2⟩
theorem canonV_same (a b : V) (ha : VOk a) (hb : VOk b) (h : sameB a b = true) : canonV a = canonV b := by
  unfold sameB at h
  rw [Bool.and_eq_true, beq_iff_eq] at h
  obtain ⟨hk, h⟩ := h
  obtain ⟨k, n, x, t, y⟩ := a
  obtain ⟨k2, n2, x2, t2, y2⟩ := b
  obtain ⟨h0, h3, hx⟩ := ha
  obtain ⟨_, _, hx2⟩ := hb
  simp only at hk h h0 h3 hx hx2
  subst hk
  rcases (show k = 0 ∨ k = 1 ∨ k = 2 ∨ k = 3 by omega) with rfl | rfl | rfl | rfl
  · have e : n = n2 := by simpa using h
    rw [e]; rfl
  · have e : Ord.key x = Ord.key x2 := by simpa [Ord.same] using h
    have := (key_canon x x2 hx hx2).1 e
    show (⟨1, 0, Ord.canon x, [], false⟩ : V) = ⟨1, 0, Ord.canon x2, [], false⟩
    rw [this]
  · have e : t = t2 := by simpa using h
    rw [e]; rfl
  · have e : y = y2 := by simpa using h
    rw [e]; rfl
theorem canon_again (x : Nat) : Ord.canon (Ord.canon x) = Ord.canon x := by
  unfold Ord.canon
  cases h : nan x
  · cases h2 : Ord.zero x
    · simp only [h, h2, Bool.false_eq_true, if_false]
    · simp only [Bool.false_eq_true, if_false, if_true]
      rw [if_neg (by decide), if_pos (by decide)]
  · simp only [if_true]
    rw [if_pos (by decide)]
theorem vT_kept (v : V) (h0 : 0 ≤ v.kind) (h3 : v.kind ≤ 3) : vT (canonV v) = vT v := by
  obtain ⟨k, n, x, t, y⟩ := v
  simp only at h0 h3
  rcases (show k = 0 ∨ k = 1 ∨ k = 2 ∨ k = 3 by omega) with rfl | rfl | rfl | rfl
  · rfl
  · show Fmt.fltT (Ord.canon (Ord.canon x)) = Fmt.fltT (Ord.canon x)
    rw [canon_again]
  · rfl
  · rfl
theorem cT_kept (c : C) (h0 : 0 ≤ c.val.kind) (h3 : c.val.kind ≤ 3) : cT (canonC c) = cT c := by
  obtain ⟨nm, op, v⟩ := c
  cases h7 : (op == 7)
  · have e : canonC ⟨nm, op, v⟩ = ⟨nm, op, canonV v⟩ := by unfold canonC; simp only [h7]; rfl
    rw [e]
    unfold cT
    simp only [h7, vT_kept v h0 h3]
  · have : op = 7 := by simpa using h7
    subst this
    rfl
theorem right_parts {c : C} (h : cRight c = true) : (∀ x ∈ c.name, x ≠ 32) ∧ 0 ≤ c.op ∧ c.op ≤ 7 ∧ 0 ≤ c.val.kind ∧ c.val.kind ≤ 3 := by
  unfold cRight vRight at h
  simp only [Bool.and_eq_true, decide_eq_true_eq] at h
  refine ⟨?_, h.1.1.2, h.1.2, h.2.1.1, h.2.1.2⟩
  have hn := h.1.1.1
  unfold Sc.nameB at hn
  simp only [Bool.and_eq_true] at hn
  have key : ∀ (l : List UInt8) (i : Nat), Sc.chsOk i l = true → ∀ x ∈ l, x ≠ 32 := by
    intro l
    induction l with
    | nil => intro _ _ x hx; cases hx
    | cons c l ih =>
      intro i h x hx
      rw [Sc.chsOk, Bool.and_eq_true] at h
      rcases List.mem_cons.1 hx with rfl | hx
      · have := h.1
        unfold Sc.chOk at this
        rintro rfl
        revert this
        simp
      · exact ih _ h.2 x hx
  exact key _ _ hn.1.1
/-- CONDITIONS THAT MAY BE, OF ONE TEXT, ARE KEPT ALIKE -/
theorem cT_inj (c d : C) (hc : cRight c = true) (hd : cRight d = true) (nc : c.val.num < 18446744073709551616) (nd : d.val.num < 18446744073709551616) (h : cT c = cT d) : canonC c = canonC d := by
  obtain ⟨c1, c2, c3, c4, c5⟩ := right_parts hc
  obtain ⟨d1, d2, d3, d4, d5⟩ := right_parts hd
  obtain ⟨nm, op, v⟩ := c
  obtain ⟨nm2, op2, v2⟩ := d
  simp only at *
  have hasE : ∀ n : List UInt8, hasT ++ n = [104, 97, 115] ++ 32 :: n := fun n => rfl
  have opE : ∀ (n : List UInt8) (o : Int) (w : V), n ++ [32] ++ wordB o ++ [32] ++ vT w = n ++ 32 :: (wordB o ++ 32 :: vT w) := fun n o w => by simp
  have wE : ∀ o : Int, 0 ≤ o → o ≤ 7 → wordB o = wordL o.toNat := fun o h1 h2 => by unfold wordB; rw [if_neg (by omega)]
  have h32 : ∀ x ∈ ([104, 97, 115] : List UInt8), x ≠ 32 := by decide
  unfold cT at h
  simp only at h
  cases o1 : (op == 7) <;> cases o2 : (op2 == 7) <;> simp only [o1, o2, Bool.false_eq_true, if_false, if_true] at h
  · have p1 : op ≠ 7 := by simpa using o1
    have p2 : op2 ≠ 7 := by simpa using o2
    rw [opE, opE] at h
    obtain ⟨e1, h2⟩ := cut32 _ _ _ _ c1 d1 h
    rw [wE op c2 c3, wE op2 d2 d3] at h2
    obtain ⟨e2, h3⟩ := cut32 _ _ _ _ (word_no32 _ (by omega)) (word_no32 _ (by omega)) h2
    have e3 := word_inj _ (by omega) _ (by omega) e2
    have e4 : op = op2 := by omega
    have h4 : vT v ++ [] = vT v2 ++ [] := by simpa using h3
    have e5 := (vT_apart v v2 ⟨c4, c5, nc⟩ ⟨d4, d5, nd⟩ [] [] (.inl rfl) (.inl rfl) h4).1
    have e6 := canonV_same v v2 ⟨c4, c5, nc⟩ ⟨d4, d5, nd⟩ e5
    unfold canonC
    simp only [o1, o2, Bool.false_eq_true, if_false]
    rw [e1, e4, e6]
  · exfalso
    rw [opE, hasE] at h
    obtain ⟨e1, h2⟩ := cut32 _ _ _ _ c1 h32 h
    exact d1 32 (by rw [← h2]; simp) rfl
  · exfalso
    rw [opE, hasE] at h
    obtain ⟨e1, h2⟩ := cut32 _ _ _ _ h32 d1 h
    exact c1 32 (by rw [h2]; simp) rfl
  · rw [hasE, hasE] at h
    obtain ⟨_, h2⟩ := cut32 _ _ _ _ h32 h32 h
    unfold canonC
    simp only [o1, o2, if_true]
    rw [h2]
theorem kept_inj {a b : C} (ha : CKept a) (hb : CKept b) (h : cT a = cT b) : a = b := by
  obtain ⟨c, c1, c2, rfl⟩ := ha
  obtain ⟨d, d1, d2, rfl⟩ := hb
  obtain ⟨_, _, _, k1, k2⟩ := right_parts c1
  obtain ⟨_, _, _, m1, m2⟩ := right_parts d1
  rw [cT_kept c k1 k2, cT_kept d m1 m2] at h
  exact cT_inj c d c1 d1 c2 d2 h
/-- what is sorted does not hang on the order in which it came -/
theorem sort_unique {L M : List C} (hk : ∀ c ∈ L, CKept c) (h : List.Perm L M) : sortC L = sortC M := by
  refine List.Perm.eq_of_pairwise (le := leC) (fun a b ha hb h1 h2 => ?_) (sortC_rises L) (sortC_rises M) ((sortC_perm L).trans (h.trans (sortC_perm M).symm))
  exact kept_inj (hk a ((sortC_perm L).subset ha)) (hk b (h.symm.subset ((sortC_perm M).subset hb))) (leC_anti h1 h2)
/-- a list of conditions that may be -/
def LOk (L : List C) : Prop := ∀ c ∈ L, cRight c = true ∧ c.val.num < 18446744073709551616
theorem LOk.kept {L : List C} (h : LOk L) : ∀ c ∈ L.map canonC, CKept c := fun c hc => by
  obtain ⟨d, hd, rfl⟩ := List.mem_map.1 hc
  exact ⟨d, (h d hd).1, (h d hd).2, rfl⟩
theorem normL_perm {L M : List C} (hk : LOk L) (h : List.Perm L M) : normL L = normL M := by
  unfold normL
  rw [sort_unique hk.kept (h.map canonC), h.length_eq]
end Go.Proofs.YtfkedobofamkiaaGreatDoor.Val
end

section
/- WHAT STAYS OF A ROW OF CONDITIONS: it hangs on which there are alone. No walk. -/
namespace Go.Proofs.YtfkedobofamkiaaGreatDoor.Val
open Go.RowKit Flt
def ltC (a b : C) : Prop := cmpC a b < 0
theorem ltC_irrefl (a : C) : ¬ ltC a a := fun h => by
  have : Lib.compareBytes (cT a) (cT a) = 0 := (cb_zero _ _).2 rfl
  unfold ltC cmpC at h
  omega
theorem ltC_asymm {a b : C} (h : ltC a b) (h2 : ltC b a) : False := leC_of_lt h h2
theorem strict_unique : ∀ (L M : List C), L.Pairwise ltC → M.Pairwise ltC → (∀ x, x ∈ L ↔ x ∈ M) → L = M
  | [], [], _, _, _ => rfl
  | [], b :: M, _, _, h => absurd ((h b).2 List.mem_cons_self) (by simp)
  | a :: L, [], _, _, h => absurd ((h a).1 List.mem_cons_self) (by simp)
  | a :: L, b :: M, hL, hM, h => by
    obtain ⟨l1, l2⟩ := List.pairwise_cons.1 hL
    obtain ⟨m1, m2⟩ := List.pairwise_cons.1 hM
    have e : a = b := by
      rcases List.mem_cons.1 ((h a).1 List.mem_cons_self) with e | ha
      · exact e
      rcases List.mem_cons.1 ((h b).2 List.mem_cons_self) with e | hb
      · exact e.symm
      exact (ltC_asymm (m1 a ha) (l1 b hb)).elim
    subst e
    rw [strict_unique L M l2 m2 (fun x => ⟨fun hx => ?_, fun hx => ?_⟩)]
    · rcases List.mem_cons.1 ((h x).1 (List.mem_cons_of_mem _ hx)) with rfl | hx2
      · exact absurd (l1 x hx) (ltC_irrefl x)
      · exact hx2
    · rcases List.mem_cons.1 ((h x).2 (List.mem_cons_of_mem _ hx)) with rfl | hx2
      · exact absurd (m1 x hx) (ltC_irrefl x)
      · exact hx2
/-- another one makes it needless -/
def Gone (S : List C) (x : C) : Prop := ∃ y ∈ S, y ≠ x ∧ impliesB y x = true ∧ (ltC y x ∨ impliesB x y = false)
theorem need_some (L : List C) (i : Nat) : ∀ n, needN L i n = true ↔ ∃ k, k < n ∧ hit L i k = true
  | 0 => by simp [needN]
  | n + 1 => by
    rw [needN, Bool.or_eq_true, need_some L i n]
    constructor
    · rintro (⟨k, hk, h⟩ | h)
      · exact ⟨k, by omega, h⟩
      · exact ⟨n, by omega, h⟩
    · rintro ⟨k, hk, h⟩
      by_cases e : k = n
      · subst e; exact .inr h
      · exact .inl ⟨k, by omega, h⟩
/-- a row in order, each as it is kept -/
structure Rise (S : List C) : Prop where
  le : S.Pairwise leC
  kept : ∀ c ∈ S, CKept c
  op : ∀ c ∈ S, 0 ≤ c.op ∧ c.op ≤ 7
theorem Rise.at {S : List C} (h : Rise S) {i k : Nat} (hi : i < S.length) (hk : k < S.length) (hki : k < i) : leC (S[k]'hk) (S[i]'hi) := List.pairwise_iff_getElem.1 h.le k i hk hi hki
theorem Rise.lt {S : List C} (h : Rise S) {a b : C} (ha : a ∈ S) (hb : b ∈ S) (hl : leC a b) (hne : a ≠ b) : ltC a b := by
  rcases Int.lt_trichotomy (cmpC a b) 0 with e | e | e
  · exact e
  · exact absurd (kept_inj (h.kept a ha) (h.kept b hb) ((cb_zero _ _).1 e)) hne
  · exact absurd ((cb_anti (cT b) (cT a)).1.2 e) hl
theorem need_iff {S : List C} (h : Rise S) (i : Nat) (hi : i < S.length) : needB S i = true ↔ (∃ k, ∃ hk : k < S.length, k < i ∧ S[k] = S[i]) ∨ Gone S S[i] := by
  unfold needB
  rw [need_some]
  have hself : ∀ x ∈ S, impliesB x x = true := fun x hx => implies_self x (h.op x hx).1 (h.op x hx).2
  constructor
  · rintro ⟨k, hk, hh⟩
    unfold hit at hh
    rw [getElem!_pos S k hk, getElem!_pos S i hi] at hh
    simp only [Bool.and_eq_true, Bool.or_eq_true, Bool.not_eq_true', decide_eq_true_eq, beq_eq_false_iff_ne] at hh
    obtain ⟨hne, himp, hor⟩ := hh
    by_cases e : S[k] = S[i]
    · rcases hor with h1 | h1
      · exact .inl ⟨k, hk, h1, e⟩
      · rw [e, hself _ (List.getElem_mem hi)] at h1; cases h1
    · refine .inr ⟨S[k], List.getElem_mem hk, e, himp, ?_⟩
      rcases hor with h1 | h1
      · exact .inl (h.lt (List.getElem_mem hk) (List.getElem_mem hi) (h.at hi hk h1) e)
      · exact .inr h1
  · rintro (⟨k, hk, hki, e⟩ | ⟨y, hy, hne, himp, hor⟩)
    · refine ⟨k, hk, ?_⟩
      unfold hit
      rw [getElem!_pos S k hk, getElem!_pos S i hi, e, hself _ (List.getElem_mem hi)]
      have : (k == i) = false := by simp; omega
      rw [this, decide_eq_true hki]; rfl
    · obtain ⟨k, hk, rfl⟩ := List.getElem_of_mem hy
      have hki : k ≠ i := fun e => hne (by subst e; rfl)
      refine ⟨k, hk, ?_⟩
      unfold hit
      rw [getElem!_pos S k hk, getElem!_pos S i hi, himp]
      have : (k == i) = false := by simpa using hki
      rw [this]
      rcases hor with h1 | h1
      · have hlt : k < i := by
          rcases Nat.lt_or_gt_of_ne hki with e | e
          · exact e
          · exact absurd h1 (h.at hk hi e)
        rw [decide_eq_true hlt]; rfl
      · rw [h1]; simp
theorem keep_mem (S : List C) (x : C) : ∀ n, n ≤ S.length → (x ∈ keepC S n ↔ ∃ i, ∃ hi : i < S.length, i < n ∧ S[i] = x ∧ needB S i = false)
  | 0, _ => by simp [keepC]
  | n + 1, hn => by
    rw [keepC, List.mem_append, keep_mem S x n (by omega)]
    constructor
    · rintro (⟨i, hi, h1, h2, h3⟩ | h)
      · exact ⟨i, hi, by omega, h2, h3⟩
      · cases hb : needB S n
        · rw [hb, getElem!_pos S n (by omega)] at h
          simp at h
          exact ⟨n, by omega, by omega, h.symm, hb⟩
        · rw [hb] at h; simp at h
    · rintro ⟨i, hi, h1, h2, h3⟩
      by_cases e : i = n
      · subst e
        rw [h3, getElem!_pos S i hi, h2]
        exact .inr (by simp)
      · exact .inl ⟨i, hi, by omega, h2, h3⟩
theorem keep_lt {S : List C} (h : Rise S) : ∀ n, n ≤ S.length → (keepC S n).Pairwise ltC
  | 0, _ => List.Pairwise.nil
  | n + 1, hn => by
    rw [keepC]
    cases hb : needB S n
    · rw [getElem!_pos S n (by omega)]
      refine List.pairwise_append.2 ⟨keep_lt h n (by omega), by simp, fun a ha b hb2 => ?_⟩
      simp at hb2
      subst hb2
      obtain ⟨i, hi, h1, rfl, h3⟩ := (keep_mem S a n (by omega)).1 ha
      refine h.lt (List.getElem_mem hi) (List.getElem_mem _) (h.at _ hi h1) (fun e => ?_)
      have := (need_iff h n (by omega)).2 (.inl ⟨i, hi, h1, e⟩)
      rw [hb] at this; cases this
    · simpa using keep_lt h n (by omega)
theorem keep_all {S : List C} (h : Rise S) (x : C) : x ∈ keepC S S.length ↔ x ∈ S ∧ ¬ Gone S x := by
  rw [keep_mem S x _ (Nat.le_refl _)]
  constructor
  · rintro ⟨i, hi, _, rfl, h3⟩
    refine ⟨List.getElem_mem hi, fun hg => ?_⟩
    rw [(need_iff h i hi).2 (.inr hg)] at h3; cases h3
  · rintro ⟨hx, hg⟩
    have key : ∀ n, ∀ i (hi : i < S.length), i ≤ n → S[i] = x → ∃ i, ∃ hi : i < S.length, i < S.length ∧ S[i] = x ∧ needB S i = false := by
      intro n
      induction n with
      | zero =>
        intro i hi h0 e
        refine ⟨i, hi, hi, e, ?_⟩
        cases hb : needB S i
        · rfl
        · rcases (need_iff h i hi).1 hb with ⟨k, _, hk, _⟩ | hg2
          · omega
          · rw [e] at hg2; exact absurd hg2 hg
      | succ n ih =>
        intro i hi h0 e
        cases hb : needB S i
        · exact ⟨i, hi, hi, e, hb⟩
        · rcases (need_iff h i hi).1 hb with ⟨k, hk, hki, e2⟩ | hg2
          · exact ih k hk (by omega) (e2.trans e)
          · rw [e] at hg2; exact absurd hg2 hg
    obtain ⟨i, hi, e⟩ := List.getElem_of_mem hx
    exact key i i hi (Nat.le_refl _) e
theorem canon_op {c : C} (h : 0 ≤ c.op ∧ c.op ≤ 7) : 0 ≤ (canonC c).op ∧ (canonC c).op ≤ 7 := by
  unfold canonC
  split
  · exact ⟨by show (0 : Int) ≤ 7; omega, by show (7 : Int) ≤ 7; omega⟩
  · exact h
theorem LOk.rise {L : List C} (h : LOk L) : Rise (sortC (L.map canonC)) where
  le := sortC_rises _
  kept := fun c hc => h.kept c ((sortC_perm _).subset hc)
  op := fun c hc => by
    obtain ⟨d, hd, rfl⟩ := List.mem_map.1 ((sortC_perm _).subset hc)
    exact canon_op ⟨(right_parts (h d hd).1).2.1, (right_parts (h d hd).1).2.2.1⟩
theorem norm_len {L : List C} : (sortC (L.map canonC)).length = L.length := by
  rw [(sortC_perm _).length_eq, List.length_map]
theorem norm_eq (L : List C) : normL L = keepC (sortC (L.map canonC)) (sortC (L.map canonC)).length := by
  rw [norm_len]; rfl
theorem normL_lt {L : List C} (h : LOk L) : (normL L).Pairwise ltC := by
  rw [norm_eq]; exact keep_lt h.rise _ (Nat.le_refl _)
theorem normL_iff {L : List C} (h : LOk L) (x : C) : x ∈ normL L ↔ x ∈ L.map canonC ∧ ¬ Gone (L.map canonC) x := by
  rw [norm_eq, keep_all h.rise]
  have hm : ∀ y, y ∈ sortC (L.map canonC) ↔ y ∈ L.map canonC := fun y => (sortC_perm _).mem_iff
  have hg : Gone (sortC (L.map canonC)) x ↔ Gone (L.map canonC) x := by
    unfold Gone
    exact ⟨fun ⟨y, a, b⟩ => ⟨y, (hm y).1 a, b⟩, fun ⟨y, a, b⟩ => ⟨y, (hm y).2 a, b⟩⟩
  rw [hm, hg]
/-- WHICH CONDITIONS THERE ARE TELLS WHAT IT IS BROUGHT TO -/
theorem normL_set {L M : List C} (hL : LOk L) (hM : LOk M) (h : ∀ x, x ∈ L.map canonC ↔ x ∈ M.map canonC) : normL L = normL M := by
  refine strict_unique _ _ (normL_lt hL) (normL_lt hM) (fun x => ?_)
  rw [normL_iff hL, normL_iff hM]
  have hg : Gone (L.map canonC) x ↔ Gone (M.map canonC) x := by
    unfold Gone
    exact ⟨fun ⟨y, a, b⟩ => ⟨y, (h y).1 a, b⟩, fun ⟨y, a, b⟩ => ⟨y, (h y).2 a, b⟩⟩
  rw [h, hg]
theorem normL_mems {L M : List C} (hL : LOk L) (h : ∀ x, x ∈ L ↔ x ∈ M) : normL L = normL M := by
  refine normL_set hL (fun c hc => hL c ((h c).2 hc)) (fun x => ?_)
  simp only [List.mem_map]
  exact ⟨fun ⟨y, a, b⟩ => ⟨y, (h y).1 a, b⟩, fun ⟨y, a, b⟩ => ⟨y, (h y).2 a, b⟩⟩
theorem normL_turn {L : List C} (hL : LOk L) (r : Nat) : normL (L.drop r ++ L.take r) = normL L :=
  (normL_mems hL (fun x => by
    conv => lhs; rw [← List.take_append_drop r L]
    rw [List.mem_append, List.mem_append]
    exact Or.comm)).symm
theorem normL_again {L : List C} (hL : LOk L) (r : Nat) (c : C) (hc : c ∈ L) : normL ((L.drop r ++ L.take r) ++ [c]) = normL L :=
  (normL_mems hL (fun x => by
    constructor
    · intro hx
      rw [← List.take_append_drop r L, List.mem_append] at hx
      simp only [List.mem_append]
      exact .inl hx.symm
    · simp only [List.mem_append, List.mem_singleton]
      rintro ((h | h) | rfl)
      · exact List.mem_of_mem_drop h
      · exact List.mem_of_mem_take h
      · exact hc)).symm
end Go.Proofs.YtfkedobofamkiaaGreatDoor.Val
end

section
/- A FILTER AS AN ARGUMENT. -/
namespace Go.Proofs.YtfkedobofamkiaaGreatDoor.Open
open Go.ChangeShapes Go.WideShapes Go.ChangeAt Go.RowKit Go.Deep
def COk (c : Val.C) : Prop := CondOk c.name c.op c.val.kind c.val.int c.val.num c.val.text
section
variable {H : Type} {enc : TypeId × Value → H} {w : World} {base : Nat} {spare : Nat → Bool} {held : Bool}
set_option maxRecDepth 100000 in
theorem leaf_conds {W : List Nat} (hr : ∀ k ∈ W, k ≤ 140737488351232) {v : Value} (h : Leaf enc Tryz.prog w base spare held W 29 v) :
    ∃ (a0 : Option Addr) (cap : Nat) (l : List Val.C), v = .slice a0 l.length cap ∧ l.length ≤ cap ∧ cap ≤ maxLen ∧ Val.Conds w a0 l ∧ (∀ x ∈ l, COk x) ∧ (a0 = none → l = [] ∧ cap = 0) := by
  have hu : Tryz.prog.underlying 29 = some (.slice 59) := Tryz.underlying29
  have hce : Tryz.prog.cellsOf 59 = 7 := by kernel_rfl
  obtain ⟨fuel, ⟨d, pp⟩, hf, hW⟩ := h
  rcases open_slice hu hf with ⟨h0, _⟩ | ⟨a, len, cap, m, n, D, Pl, h0, hb, hl, hm, hmm, hx, hel⟩
  · have he : v = .slice none 0 0 := by simpa using h0
    subst he
    exact ⟨none, 0, [], rfl, Nat.le_refl _, Nat.zero_le _, fun _ h => absurd h (Nat.not_lt_zero _), fun _ hx => (nomatch hx), fun _ => ⟨rfl, rfl⟩⟩
  · have he : v = .slice (some a) len cap := by simpa using h0
    subst he
    have hlm : len ≤ m := by rw [hmm]; split <;> omega
    have each : ∀ i, i < len → ∃ x : Val.C, Val.CAt w (a.add (i * 7)) x ∧ COk x := by
      intro i hi
      obtain ⟨cs', h1, h2⟩ := hel i (by omega)
      rw [hce] at h1
      obtain ⟨_, hlen, hcell⟩ := World.cells?_some h1
      have hcs := cells_of 3 cond_packed h2 (by rw [hlen, hce])
      rw [cond_leaves] at hcs
      have hw : ∀ k ∈ DataW.weights Tryz.prog 59 (D i), k ≤ 140737488351232 := by
        intro k hk
        refine hr k (hW k ?_)
        have hd : d = .slice ((List.range len).map D) ((List.range (m - len)).map fun j => D (len + j)) := congrArg Prod.fst hx
        rw [hd]
        simp only [DataW.weights, hu]
        exact List.mem_cons_of_mem _ (List.mem_append_left _ (weightsAll_mem (List.mem_map.2 ⟨i, List.mem_range.2 hi, rfl⟩) k hk))
      obtain ⟨nm, op, k, nn, x, t, y, us, e, ok, hn⟩ := cond_cells hw (ts := []) hcs
      rw [hn.nil, List.append_nil] at e
      subst e
      refine ⟨⟨nm, op, ⟨k, nn, x, t, y⟩⟩, ⟨?_, ?_, ?_, ?_, ?_, ?_, ?_⟩, ok⟩
      · exact hcell 0 (by decide)
      · exact hcell 1 (by decide)
      · exact hcell 2 (by decide)
      · exact hcell 3 (by decide)
      · exact hcell 4 (by decide)
      · exact hcell 5 (by decide)
      · exact hcell 6 (by decide)
    obtain ⟨F, hF⟩ := choose_lt each
    refine ⟨some a, cap, (List.range len).map F, by simp, by simpa using hl, hm, fun i hi => ⟨a, rfl, ?_⟩, fun x hx => ?_, fun e => by cases e⟩
    · have hi' : i < len := by simpa using hi
      have : ((List.range len).map F)[i] = F i := by simp
      rw [this]
      exact (hF i hi').1
    · obtain ⟨i, hi, rfl⟩ := List.mem_map.1 hx
      exact (hF i (List.mem_range.1 hi)).2
theorem filter_leaves : leaves Tryz.prog 3 31 = [9, 29] := by kernel_rfl
theorem filter_packed : packed Tryz.prog 3 31 = true := by kernel_rfl
theorem filter_cells {W : List Nat} (hr : ∀ k ∈ W, k ≤ 140737488351232) {vs : List Value} (h : Cells enc Tryz.prog w base spare held W [9, 29] vs) :
    ∃ (sc : List UInt8) (a0 : Option Addr) (cap : Nat) (l : List Val.C), vs = [.string ⟨sc.toArray⟩, .slice a0 l.length cap] ∧ sc.length ≤ 140737488351232 ∧ l.length ≤ cap ∧ cap ≤ maxLen ∧ Val.Conds w a0 l ∧ (∀ x ∈ l, COk x) ∧ (a0 = none → l = [] ∧ cap = 0) := by
  obtain ⟨v0, u0, rfl, h0, r0⟩ := h.cons
  obtain ⟨v1, u1, rfl, h1, r1⟩ := r0.cons
  obtain ⟨sc, rfl, w0⟩ := h0.string Tryz.underlying9
  obtain ⟨a0, cap, l, rfl, q, m, s, k, n⟩ := leaf_conds hr h1
  exact ⟨sc, a0, cap, l, by rw [r1.nil], hr _ w0, q, m, s, k, n⟩
set_option maxRecDepth 100000 in
theorem open_filter {r : Reach} {b0 : Nat} {v : Value} {d : DataW H} {p : List MemPlace} (hv : Value.okWide Tryz.prog w r b0 31 v) (h : DataW.Trod enc Tryz.prog w base spare held 31 v d p)
    (hr : ∀ k ∈ DataW.weights Tryz.prog 31 d, k ≤ 140737488351232) :
    ∃ (sc : List UInt8) (a0 : Option Addr) (cap : Nat) (l : List Val.C), v = .agg #[.string ⟨sc.toArray⟩, .slice a0 l.length cap] ∧ sc.length ≤ 140737488351232 ∧ l.length ≤ cap ∧ cap ≤ maxLen ∧ Val.Conds w a0 l ∧ (∀ x ∈ l, COk x) ∧ (a0 = none → l = [] ∧ cap = 0) := by
  obtain ⟨cs, rfl, hc⟩ := arg_cells 3 Tryz.underlying31 filter_packed hv h
  rw [filter_leaves] at hc
  obtain ⟨sc, a0, cap, l, e, rest⟩ := filter_cells hr hc
  exact ⟨sc, a0, cap, l, by rw [← e], rest⟩
end
end Go.Proofs.YtfkedobofamkiaaGreatDoor.Open
end

section
/- WHAT FilterTurns ASKS, plain. No walk. -/
namespace Go.Proofs.YtfkedobofamkiaaGreatDoor.Val
open Go.RowKit Flt
theorem parts_long (l : List UInt8) : l.length + 1 = ((Sc.parts l).map (fun p => p.length + 1)).sum := by
  induction l with
  | nil => simp [Sc.parts]
  | cons b r ih =>
    rw [Sc.parts]
    split
    · rw [List.map_cons, List.sum_cons, ← ih]; simp; omega
    · cases h : Sc.parts r with
      | nil => exact absurd h (Sc.parts_ne r)
      | cons p q =>
        rw [h] at ih
        simp only [List.map_cons, List.sum_cons, List.length_cons] at ih ⊢
        omega
theorem names_long : ∀ L : List (List UInt8), L.all Sc.nameB = true → (L.map (fun p => p.length + 1)).sum ≤ 13 * L.length
  | [], _ => by simp
  | p :: L, h => by
    rw [List.all_cons, Bool.and_eq_true] at h
    have := names_long L h.2
    have h1 : p.length ≤ 12 := by
      have := h.1
      unfold Sc.nameB at this
      simp only [Bool.and_eq_true, decide_eq_true_eq] at this
      exact this.2
    rw [List.map_cons, List.sum_cons, List.length_cons]
    omega
theorem scope_short {s : List UInt8} (h : Sc.rightB s = true) : s.length ≤ 1000 := by
  unfold Sc.rightB at h
  rw [Bool.or_eq_true, Bool.and_eq_true, decide_eq_true_eq] at h
  rcases h with h | ⟨h1, h2⟩
  · have : s = [] := by simpa using h
    subst this; simp
  · have e1 := parts_long s
    have e2 := names_long _ h1
    omega
theorem fright_small {sf : List UInt8} {l : List C} (h : fRight sf l = true) (hok : ∀ x ∈ l, Open.COk x) (hn : ∀ x ∈ l, x.val.num < 18446744073709551616) : sf.length ≤ 1000 ∧ l.length ≤ 6 ∧ LOk l ∧ ∀ c ∈ l, CSmall c ∧ 0 ≤ c.op ∧ c.op ≤ 7 := by
  have hop := fright_op h
  unfold fRight at h
  simp only [Bool.and_eq_true, List.all_eq_true, decide_eq_true_eq] at h
  refine ⟨scope_short h.2.1, h.2.2, fun c hc => ⟨h.1 c hc, hn c hc⟩, fun c hc => ⟨⟨?_, ?_, hn c hc, (hok c hc).2.2.2.1.1, (hok c hc).2.2.2.1.2⟩, hop c hc⟩⟩
  · have := h.1 c hc
    unfold cRight Sc.nameB at this
    simp only [Bool.and_eq_true, decide_eq_true_eq] at this
    omega
  · have := h.1 c hc
    unfold cRight vRight at this
    simp only [Bool.and_eq_true, decide_eq_true_eq] at this
    omega
theorem under_me (s : List UInt8) : Sc.underB s s = true := by
  unfold Sc.underB
  simp
theorem covers_mems {sf : List UInt8} {l m : List C} (h : ∀ c ∈ l, c ∈ m) (ho : ∀ c ∈ l, 0 ≤ c.op ∧ c.op ≤ 7) : fCovers sf l sf m = true := by
  unfold fCovers
  rw [under_me, Bool.and_true, Bool.or_eq_true]
  refine .inr (List.all_eq_true.2 fun c hc => ?_)
  unfold fSome
  exact List.any_eq_true.2 ⟨c, h c hc, implies_self c (ho c hc).1 (ho c hc).2⟩
theorem key_turn {sf : List UInt8} {L : List C} (hL : LOk L) (r : Nat) : keyT sf (L.drop r ++ L.take r) = keyT sf L := by
  unfold keyT; rw [normL_turn hL r]
theorem key_again {sf : List UInt8} {L : List C} (hL : LOk L) (r : Nat) (c : C) (hc : c ∈ L) : keyT sf ((L.drop r ++ L.take r) ++ [c]) = keyT sf L := by
  unfold keyT; rw [normL_again hL r c hc]
theorem flatC_apps (l m : List C) : flatC (l ++ m) = flatC l ++ flatC m := by simp [flatC]
theorem conds_lie {w : World} {a : Addr} {l : List C} (h : Conds w (some a) l) (i : Nat) : ∀ j u, (flatC (l.drop i))[j]? = some u → w.cell? ((a.add (i * 7)).add j) = some u := by
  intro j u hj
  have hjl : j < (l.drop i).length * 7 := by have := (List.getElem?_eq_some_iff.1 hj).1; rwa [flatC_len] at this
  rw [List.length_drop] at hjl
  obtain ⟨q, p, hp, rfl⟩ : ∃ q p, p < 7 ∧ j = q * 7 + p := ⟨j / 7, j % 7, Nat.mod_lt _ (by decide), by omega⟩
  have hq : i + q < l.length := by omega
  have hq2 : q < (l.drop i).length := by rw [List.length_drop]; omega
  rw [flatC_at _ q p hq2 hp] at hj
  have he : (l.drop i)[q] = l[i + q] := List.getElem_drop ..
  rw [he] at hj
  obtain ⟨a', ea, h0, h1, h2, h3, h4, h5, h6⟩ := h (i + q) hq
  cases ea
  have hadd : (a.add (i * 7)).add (q * 7 + p) = (a.add ((i + q) * 7)).add p := by rw [Deep.add_add, Deep.add_add]; congr 1; omega
  rw [hadd]
  match p, hp, hj with
  | 0, _, hj => simp [cells7] at hj; subst hj; exact h0
  | 1, _, hj => simp [cells7] at hj; subst hj; exact h1
  | 2, _, hj => simp [cells7] at hj; subst hj; exact h2
  | 3, _, hj => simp [cells7] at hj; subst hj; exact h3
  | 4, _, hj => simp [cells7] at hj; subst hj; exact h4
  | 5, _, hj => simp [cells7] at hj; subst hj; exact h5
  | 6, _, hj => simp [cells7] at hj; subst hj; exact h6
theorem conds_take {w : World} {a : Addr} {l : List C} (h : Conds w (some a) l) (r : Nat) : ∀ j u, (flatC (l.take r))[j]? = some u → w.cell? (a.add j) = some u := by
  intro j u hj
  have h1 := conds_lie h 0 j u (by
    rw [List.drop_zero]
    conv => lhs; rw [← List.take_append_drop r l]
    rw [flatC_apps, List.getElem?_append_left (List.getElem?_eq_some_iff.1 hj).1]
    exact hj)
  rw [Deep.add_add] at h1
  simpa using h1
end Go.Proofs.YtfkedobofamkiaaGreatDoor.Val
end

section
/- THE WALK OF (*policy.Log).Add. -/
namespace Go.Proofs.YtfkedobofamkiaaGreatDoor.Pol
open Go.RowKit Flt Go.Proofs.YtfkedobofamkiaaGreatDoor.Val
attribute [local go_sem] run_store_flt
/-- what an Add leaves alone: all blocks but the log's box and its row -/
structure Kept (w : World) (b : Nat) (row : Option Nat) (w' : World) : Prop where
  os : w'.os = w.os
  tape : w'.tape = w.tape
  output : w'.output = w.output
  size : w.heap.size ≤ w'.heap.size
  block : ∀ i, i < w.heap.size → i ≠ b → some i ≠ row → w'.heap[i]? = w.heap[i]?
/-- the log and the rule's box, ahead of the append -/
structure AB (w : World) (b base : Nat) (v : Value) (l : List R) (q : R) (W : World) : Prop where
  cb : W.cell? ⟨b, 0, none⟩ = some v
  fz : W.frozen? ⟨b, 0, none⟩ = false
  box : ∀ o, o < 8 → W.cell? ⟨w.heap.size, o, none⟩ = (cells8 q)[o]?
  own : W.ownsRow base 33 8 v l.length (flatR l)
  lt : w.heap.size < W.heap.size
  bel : Below w.heap.size w W
theorem ab_below {w W : World} {b base : Nat} {v : Value} {l : List R} {q : R} (hcb : w.cell? ⟨b, 0, none⟩ = some v) (hfz : w.frozen? ⟨b, 0, none⟩ = false) (hown : w.ownsRow base 33 8 v l.length (flatR l))
    (hb : Below w.heap.size w W) (hlt : w.heap.size < W.heap.size) (hbox : ∀ o, o < 8 → W.cell? ⟨w.heap.size, o, none⟩ = (cells8 q)[o]?) : AB w b base v l q W :=
  have hz := World.block_lt_of_cell? _ _ hcb
  ⟨(hb.cell (p := ⟨b, 0, none⟩) hz).trans hcb, (hb.frozen (p := ⟨b, 0, none⟩) hz).trans hfz, hbox, Fmt.own_low hown hb (fun k hk => (hown.lt k hk).2), hlt, hb⟩
theorem ab_two {w w3 : World} {b base : Nat} {v : Value} {l : List R} (kd tn : Int) (who : List UInt8) (br : Int) (sc : List UInt8) (c0 : Option Addr) (cn cc : Nat) (nm : List UInt8) (pl : Int) {T : TypeId} (c1 : Option Addr) (cn1 cc1 : Nat) (hcb : w.cell? ⟨b, 0, none⟩ = some v) (hfz : w.frozen? ⟨b, 0, none⟩ = false) (hown : w.ownsRow base 33 8 v l.length (flatR l))
    (hb : Below (w.alloc (.cells #[.int .i64 kd, .int .i64 tn, .string ⟨who.toArray⟩, .int .i64 br, .string ⟨sc.toArray⟩, .slice c0 cn cc, .string ⟨nm.toArray⟩, .int .i64 pl] T)).heap.size (w.alloc (.cells #[.int .i64 kd, .int .i64 tn, .string ⟨who.toArray⟩, .int .i64 br, .string ⟨sc.toArray⟩, .slice c0 cn cc, .string ⟨nm.toArray⟩, .int .i64 pl] T)) w3) :
    AB w b base v l ⟨⟨kd, tn, who, pl⟩, br, sc, c1, cn1, cc1, nm⟩ ((w3.setCell ⟨w.heap.size, 4, none⟩ (.string ⟨sc.toArray⟩)).setCell ⟨w.heap.size, 5, none⟩ (.slice c1 cn1 cc1)) := by
  have z : w.heap.size < (w.alloc (.cells #[.int .i64 kd, .int .i64 tn, .string ⟨who.toArray⟩, .int .i64 br, .string ⟨sc.toArray⟩, .slice c0 cn cc, .string ⟨nm.toArray⟩, .int .i64 pl] T)).heap.size := by simp
  have c : ∀ o, w3.cell? ⟨w.heap.size, o, none⟩ = #[.int .i64 kd, .int .i64 tn, .string ⟨who.toArray⟩, .int .i64 br, .string ⟨sc.toArray⟩, .slice c0 cn cc, .string ⟨nm.toArray⟩, .int .i64 pl][o]? := fun o => (hb.cell (p := ⟨w.heap.size, o, none⟩) z).trans (World.cell?_alloc_at _ _ _ _ rfl)
  have hB : Below w.heap.size w ((w3.setCell ⟨w.heap.size, 4, none⟩ (.string ⟨sc.toArray⟩)).setCell ⟨w.heap.size, 5, none⟩ (.slice c1 cn1 cc1)) := ((btrans (balloc _ _) hb).setCell (Nat.le_refl _) _).setCell (Nat.le_refl _) _
  refine ab_below hcb hfz hown hB ?_ ?_
  · have := hb.size; simp at this ⊢; omega
  · have far : ∀ (W : World) (p o : Nat) (u : Value), p ≠ o → (W.setCell ⟨w.heap.size, p, none⟩ u).cell? ⟨w.heap.size, o, none⟩ = W.cell? ⟨w.heap.size, o, none⟩ := fun W p o u h => World.cell?_setCell_other _ _ _ _ (by intro e; injection e with _ e2 _; exact h e2)
    have s4 : (w3.setCell ⟨w.heap.size, 4, none⟩ (.string ⟨sc.toArray⟩)).cell? ⟨w.heap.size, 4, none⟩ = some (.string ⟨sc.toArray⟩) := World.cell?_setCell_same _ _ _ (c 4)
    have s5 : ((w3.setCell ⟨w.heap.size, 4, none⟩ (.string ⟨sc.toArray⟩)).setCell ⟨w.heap.size, 5, none⟩ (.slice c1 cn1 cc1)).cell? ⟨w.heap.size, 5, none⟩ = some (.slice c1 cn1 cc1) := World.cell?_setCell_same _ _ _ ((far _ 4 5 _ (by decide)).trans (c 5))
    intro o ho
    match o, ho with
    | 0, _ => exact (far _ 5 0 _ (by decide)).trans ((far _ 4 0 _ (by decide)).trans (c 0))
    | 1, _ => exact (far _ 5 1 _ (by decide)).trans ((far _ 4 1 _ (by decide)).trans (c 1))
    | 2, _ => exact (far _ 5 2 _ (by decide)).trans ((far _ 4 2 _ (by decide)).trans (c 2))
    | 3, _ => exact (far _ 5 3 _ (by decide)).trans ((far _ 4 3 _ (by decide)).trans (c 3))
    | 4, _ => exact (far _ 5 4 _ (by decide)).trans s4
    | 5, _ => exact s5
    | 6, _ => exact (far _ 5 6 _ (by decide)).trans ((far _ 4 6 _ (by decide)).trans (c 6))
    | 7, _ => exact (far _ 5 7 _ (by decide)).trans ((far _ 4 7 _ (by decide)).trans (c 7))
theorem ab_one {w w3 : World} {b base : Nat} {v : Value} {l : List R} (kd tn : Int) (who : List UInt8) (br : Int) (sc : List UInt8) (c0 : Option Addr) (cn cc : Nat) (nm : List UInt8) (pl : Int) {T : TypeId} (c1 : Option Addr) (cn1 cc1 : Nat) (hcb : w.cell? ⟨b, 0, none⟩ = some v) (hfz : w.frozen? ⟨b, 0, none⟩ = false) (hown : w.ownsRow base 33 8 v l.length (flatR l))
    (hb : Below (w.alloc (.cells #[.int .i64 kd, .int .i64 tn, .string ⟨who.toArray⟩, .int .i64 br, .string ⟨sc.toArray⟩, .slice c0 cn cc, .string ⟨nm.toArray⟩, .int .i64 pl] T)).heap.size (w.alloc (.cells #[.int .i64 kd, .int .i64 tn, .string ⟨who.toArray⟩, .int .i64 br, .string ⟨sc.toArray⟩, .slice c0 cn cc, .string ⟨nm.toArray⟩, .int .i64 pl] T)) w3) :
    AB w b base v l ⟨⟨kd, tn, who, pl⟩, br, sc, c1, cn1, cc1, nm⟩ (w3.setCell ⟨w.heap.size, 5, none⟩ (.slice c1 cn1 cc1)) := by
  have z : w.heap.size < (w.alloc (.cells #[.int .i64 kd, .int .i64 tn, .string ⟨who.toArray⟩, .int .i64 br, .string ⟨sc.toArray⟩, .slice c0 cn cc, .string ⟨nm.toArray⟩, .int .i64 pl] T)).heap.size := by simp
  have c : ∀ o, w3.cell? ⟨w.heap.size, o, none⟩ = #[.int .i64 kd, .int .i64 tn, .string ⟨who.toArray⟩, .int .i64 br, .string ⟨sc.toArray⟩, .slice c0 cn cc, .string ⟨nm.toArray⟩, .int .i64 pl][o]? := fun o => (hb.cell (p := ⟨w.heap.size, o, none⟩) z).trans (World.cell?_alloc_at _ _ _ _ rfl)
  have hB : Below w.heap.size w (w3.setCell ⟨w.heap.size, 5, none⟩ (.slice c1 cn1 cc1)) := (btrans (balloc _ _) hb).setCell (Nat.le_refl _) _
  refine ab_below hcb hfz hown hB ?_ ?_
  · have := hb.size; simp at this ⊢; omega
  · have far : ∀ (W : World) (p o : Nat) (u : Value), p ≠ o → (W.setCell ⟨w.heap.size, p, none⟩ u).cell? ⟨w.heap.size, o, none⟩ = W.cell? ⟨w.heap.size, o, none⟩ := fun W p o u h => World.cell?_setCell_other _ _ _ _ (by intro e; injection e with _ e2 _; exact h e2)
    have s5 : (w3.setCell ⟨w.heap.size, 5, none⟩ (.slice c1 cn1 cc1)).cell? ⟨w.heap.size, 5, none⟩ = some (.slice c1 cn1 cc1) := World.cell?_setCell_same _ _ _ (c 5)
    intro o ho
    match o, ho with
    | 0, _ => exact (far _ 5 0 _ (by decide)).trans (c 0)
    | 1, _ => exact (far _ 5 1 _ (by decide)).trans (c 1)
    | 2, _ => exact (far _ 5 2 _ (by decide)).trans (c 2)
    | 3, _ => exact (far _ 5 3 _ (by decide)).trans (c 3)
    | 4, _ => exact (far _ 5 4 _ (by decide)).trans (c 4)
    | 5, _ => exact s5
    | 6, _ => exact (far _ 5 6 _ (by decide)).trans (c 6)
    | 7, _ => exact (far _ 5 7 _ (by decide)).trans (c 7)
theorem own_slice {w : World} {base e size n : Nat} {v : Value} {xs : List Value} (h : w.ownsRow base e size v n xs) : ∃ c1 cn cc, v = .slice c1 cn cc := by
  rcases h.2 with ⟨rfl, _⟩ | ⟨g, cap, cur, rfl, _⟩
  · exact ⟨_, _, _, rfl⟩
  · exact ⟨_, _, _, rfl⟩
theorem sk_far {W W2 : World} {b p : Nat} {v v0 v1 v2 v3 v4 v5 v6 v7 : Value} (e0 : W2.cell? ⟨b, 0, none⟩ = W.cell? ⟨b, 0, none⟩) (e1 : ∀ o, W2.cell? ⟨p, o, none⟩ = W.cell? ⟨p, o, none⟩) (h : W.cell? ⟨b, 0, none⟩ = some v ∧ W.cell? ⟨p, 0, none⟩ = some v0 ∧ W.cell? ⟨p, 1, none⟩ = some v1 ∧ W.cell? ⟨p, 2, none⟩ = some v2 ∧ W.cell? ⟨p, 3, none⟩ = some v3 ∧ W.cell? ⟨p, 4, none⟩ = some v4 ∧ W.cell? ⟨p, 5, none⟩ = some v5 ∧ W.cell? ⟨p, 6, none⟩ = some v6 ∧ W.cell? ⟨p, 7, none⟩ = some v7) :
    W2.cell? ⟨b, 0, none⟩ = some v ∧ W2.cell? ⟨p, 0, none⟩ = some v0 ∧ W2.cell? ⟨p, 1, none⟩ = some v1 ∧ W2.cell? ⟨p, 2, none⟩ = some v2 ∧ W2.cell? ⟨p, 3, none⟩ = some v3 ∧ W2.cell? ⟨p, 4, none⟩ = some v4 ∧ W2.cell? ⟨p, 5, none⟩ = some v5 ∧ W2.cell? ⟨p, 6, none⟩ = some v6 ∧ W2.cell? ⟨p, 7, none⟩ = some v7 :=
  ⟨e0.trans h.1, (e1 0).trans h.2.1, (e1 1).trans h.2.2.1, (e1 2).trans h.2.2.2.1, (e1 3).trans h.2.2.2.2.1, (e1 4).trans h.2.2.2.2.2.1, (e1 5).trans h.2.2.2.2.2.2.1, (e1 6).trans h.2.2.2.2.2.2.2.1, (e1 7).trans h.2.2.2.2.2.2.2.2⟩
theorem AB.sk {w W : World} {b base : Nat} {v : Value} {l : List R} {q : R} (h : AB w b base v l q W) : W.cell? ⟨b, 0, none⟩ = some v ∧ W.cell? ⟨w.heap.size, 0, none⟩ = some (.int .i64 q.k.kind) ∧ W.cell? ⟨w.heap.size, 1, none⟩ = some (.int .i64 q.k.tenant) ∧ W.cell? ⟨w.heap.size, 2, none⟩ = some (.string ⟨q.k.who.toArray⟩) ∧ W.cell? ⟨w.heap.size, 3, none⟩ = some (.int .i64 q.br) ∧ W.cell? ⟨w.heap.size, 4, none⟩ = some (.string ⟨q.sc.toArray⟩) ∧ W.cell? ⟨w.heap.size, 5, none⟩ = some (.slice q.c0 q.cn q.cc) ∧ W.cell? ⟨w.heap.size, 6, none⟩ = some (.string ⟨q.nm.toArray⟩) ∧ W.cell? ⟨w.heap.size, 7, none⟩ = some (.int .i64 q.k.pl) :=
  ⟨h.cb, h.box 0 (by decide), h.box 1 (by decide), h.box 2 (by decide), h.box 3 (by decide), h.box 4 (by decide), h.box 5 (by decide), h.box 6 (by decide), h.box 7 (by decide)⟩
/-- behind the append: the log holds one rule more; all other blocks are as they were -/
theorem add_fin {w W w5 : World} {b base : Nat} {v : Value} {l : List R} {q r : R} {o : Obj} {g cap2 : Nat} (hk : q.k = r.k) (h : AB w b base v l q W) (hbb : b < base) (hown5 : w5.ownsRow base 33 8 (.slice (some ⟨g, 0, none⟩) (l.length + 1) cap2) (l.length + 1) (flatR l ++ flatR [q]))
    (hgrow : (W.alloc o).drew.grownBy w5 v.ownBlock) (hat : v.ownBlock = some g ∨ g = W.heap.size + 1) (hf5 : w5.frozen? ⟨b, 0, none⟩ = false) (hs5 : w5.cell? ⟨b, 0, none⟩ = some v) :
    ∃ (v' : Value) (r' : R), r'.k = r.k ∧ (w5.setCell ⟨b, 0, none⟩ (.slice (some ⟨g, 0, none⟩) (l.length + 1) cap2)).cell? ⟨b, 0, none⟩ = some v' ∧ (w5.setCell ⟨b, 0, none⟩ (.slice (some ⟨g, 0, none⟩) (l.length + 1) cap2)).ownsRow base 33 8 v' (l.length + 1) (flatR (l ++ [r'])) ∧ (w5.setCell ⟨b, 0, none⟩ (.slice (some ⟨g, 0, none⟩) (l.length + 1) cap2)).frozen? ⟨b, 0, none⟩ = false ∧ Kept w b v.ownBlock (w5.setCell ⟨b, 0, none⟩ (.slice (some ⟨g, 0, none⟩) (l.length + 1) cap2)) ∧ (v'.ownBlock = v.ownBlock ∨ ∃ k, v'.ownBlock = some k ∧ w.heap.size ≤ k) := by
  have hsz : W.heap.size ≤ w5.heap.size := Nat.le_trans (balloc W o).size hgrow.size
  have hlt := h.lt
  have hB := (Below.refl b w5).setCell (p := ⟨b, 0, none⟩) (Nat.le_refl _) (.slice (some ⟨g, 0, none⟩) (l.length + 1) cap2)
  have hG := balloc W o
  refine ⟨_, q, hk, World.cell?_setCell_same _ _ _ hs5, ?_, ?_, ⟨hB.os.trans (hgrow.os.trans (hG.os.trans h.bel.os)), hB.tape.trans (hgrow.tape.trans (hG.tape.trans h.bel.tape)), hB.output.trans (hgrow.output.trans (hG.output.trans h.bel.output)), ?_, ?_⟩, ?_⟩
  · rw [flatR_app]; exact ownsRow_setCell_below hown5 hbb _
  · simpa using hf5
  · have := hB.size; omega
  · intro i hi hib hiv
    have e1 := Below.heap_setCell w5 ⟨b, 0, none⟩ (.slice (some ⟨g, 0, none⟩) (l.length + 1) cap2) i hib
    have e2 := hgrow.block i (Nat.lt_of_lt_of_le (Nat.lt_trans hi hlt) (balloc W o).size) hiv
    have e3 := (balloc W o).block i (Nat.lt_trans hi hlt)
    exact e1.trans (e2.trans (e3.trans (h.bel.block i hi)))
  · rcases hat with e | e
    · exact .inl e.symm
    · exact .inr ⟨g, rfl, by omega⟩
theorem conds_all {w : World} {a : Addr} {l : List C} (h : Conds w (some a) l) : ∀ j u, (flatC l)[j]? = some u → w.cell? (a.add j) = some u := by
  have := conds_take h l.length
  rwa [List.take_length] at this
theorem info_rule : (Tryz.prog.info? 33).map (fun i => (i.zero, i.size, i.bytes)) = some (some (.agg #[.int .i64 0, .int .i64 0, .string .empty, .int .i64 0, .string .empty, .slice none 0 0, .string .empty, .int .i64 0]), 8, 104) := by kernel_rfl
set_option maxRecDepth 20000 in
set_option maxHeartbeats 4000000 in
theorem add_no (b : Nat) (a0 : Option Addr) (cap : Nat) (l : List R) (r : R) (cs : List C) (w : World) (hl : Log w b a0 cap l) (hlm : l.length ≤ 1000000) (hcap : l.length ≤ cap) (hr : ROk w r cs) (hne : checkE (ks l) (aclB r cs) r.k ≠ 0) :
    Calls Tryz.prog 7 #[.pointer (some ⟨b, 0, none⟩), rv r] w fun e w' => e = .returned (.int .i64 (checkE (ks l) (aclB r cs) r.k)) ∧ Below w.heap.size w w' := by
  have hck (W : World) (h : Below w.heap.size w W) := check_any b a0 cap l r cs W (hl.below h) hlm hcap (hr.below h)
  generalize checkE (ks l) (aclB r cs) r.k = E at *
  have HCK := Lib.hid hck; clear hck hl hr hlm hcap
  have hne2 : (E != 0) = true := by simpa using hne
  clear hne
  obtain ⟨⟨kd, tn, who, pl⟩, br, sc, c0, cn, cc, nm⟩ := r
  go_enter Tryz.func7, Tryz.ntmps7
  go_wp2_with (first | (go_at_call 14; refine (HCK.out _ (by repeat (first | assumption | (with_reducible exact Below.refl _ _) | exact balloc _ _ | exact balloc2 _ _ _ | refine btrans ?_ (by assumption) | refine btrans ?_ (balloc _ _)))).mono ?_; rintro e w1 ⟨rfl, hb1⟩; obtain ⟨hc1, hf1⟩ := bcell hb1; have hz1 := size1 hb1) | fail)
  go_ret
  exact ⟨rfl, by repeat (first | assumption | (with_reducible exact Below.refl _ _) | exact balloc _ _ | exact balloc2 _ _ _ | refine btrans ?_ (by assumption) | refine btrans ?_ (balloc _ _))⟩
set_option maxRecDepth 20000 in
set_option maxHeartbeats 4000000 in
theorem add_yes (b base : Nat) (v : Value) (l : List R) (r : R) (cs : List C) (w : World) (hv : w.cell? ⟨b, 0, none⟩ = some v) (hfz : w.frozen? ⟨b, 0, none⟩ = false) (hown : w.ownsRow base 33 8 v l.length (flatR l)) (hbb : b < base) (hbs : base ≤ w.heap.size)
    (hr : ROk w r cs) (hnil : r.c0 = none → r.cn = 0 ∧ r.cc = 0) (hw : Words w) (hT : Tab.Tabs w) (hs : fRight r.sc cs = true → cs.length ≤ 19 ∧ ∀ c ∈ cs, CSmall c ∧ 0 ≤ c.op ∧ c.op ≤ 7) (h0 : checkE (ks l) (aclB r cs) r.k = 0) (hlm : l.length ≤ 1000000) :
    Calls Tryz.prog 7 #[.pointer (some ⟨b, 0, none⟩), rv r] w fun e w' => e = .returned (.int .i64 0) ∧ ∃ (v' : Value) (r' : R), r'.k = r.k ∧ w'.cell? ⟨b, 0, none⟩ = some v' ∧ w'.ownsRow base 33 8 v' (l.length + 1) (flatR (l ++ [r'])) ∧ w'.frozen? ⟨b, 0, none⟩ = false ∧ Kept w b v.ownBlock w' ∧ (v'.ownBlock = v.ownBlock ∨ ∃ k, v'.ownBlock = some k ∧ w.heap.size ≤ k) := by
  obtain ⟨a0, cap, rfl, hru⟩ := own_rules hown
  have hcap : l.length ≤ cap := by
    rcases hown.2 with ⟨h, h0⟩ | ⟨g, cp, cur, h, _, _, hn, _⟩
    · omega
    · cases h; exact hn
  have hck (W : World) (h : Below w.heap.size w W) := check_any b a0 cap l r cs W (Log.below ⟨hv, hru⟩ h) hlm hcap (hr.below h)
  rw [h0] at hck
  have hfr (W : World) (h : Below w.heap.size w W) : Calls Tryz.prog 15 #[ev r.sc r.c0 r.cn r.cc] W fun e w' => e = .returned (.bool (fRight r.sc cs)) ∧ Below W.heap.size W w' := by
    rw [hr.hn]; exact fright_any r.sc r.c0 r.cc cs W (hr.hc.below h) hr.hlm hr.hsc hr.hok
  have hno (hf : fRight r.sc cs = true) (W : World) (h : Below w.heap.size w W) : Calls Tryz.prog 16 #[ev r.sc r.c0 r.cn r.cc] W fun e w' => ∃ b0 cp, e = .returned (ev r.sc b0 (normL cs).length cp) ∧ Below W.heap.size W w' := by
    rw [hr.hn]
    refine (norm_any r.sc r.c0 r.cc cs W (hr.hc.below h) (hs hf).1 (hw.below h) (hT.below h (Nat.le_refl _)) (hs hf).2).mono ?_
    rintro e w' ⟨b0, cp, rfl, _, hb⟩
    exact ⟨b0, cp, rfl, hb⟩
  have hz : b < w.heap.size := by omega
  have HCK := Lib.hid hck; have HFR := Lib.hid hfr; have HNO := Lib.hid hno; have HR := Lib.hid hr; have OWN := Lib.hid hown
  have hn1 : some b ≠ (Value.slice a0 l.length cap).ownBlock := fun e => by have := (hown.lt b e.symm).1; omega
  have hn2 : some w.heap.size ≠ (Value.slice a0 l.length cap).ownBlock := fun e => by have := (hown.lt _ e.symm).2; omega
  obtain ⟨i0, hi, hz0, hz1', hz2'⟩ := info_parts info_rule
  clear hck hfr hno hs hw hT h0 hr hown hru
  generalize fRight r.sc cs = fr at *
  cases fr
  · obtain ⟨⟨kd, tn, who, pl⟩, br, sc, c0, cn, cc, nm⟩ := r
    dsimp only at *
    obtain rfl : cn = cs.length := HR.out.hn
    obtain ⟨j0, hj, hj0, hj1, hj2⟩ := info_parts info_cond
    have hcl := HR.out.hlm
    cases c0 with
    | none =>
      obtain ⟨hcn, rfl⟩ := hnil rfl
      rw [hcn] at *
      go_enter Tryz.func7, Tryz.ntmps7
      go_wp2_with (first | (go_at_call 14; refine (HCK.out _ (by repeat (first | assumption | (with_reducible exact Below.refl _ _) | exact balloc _ _ | exact balloc2 _ _ _ | refine btrans ?_ (by assumption) | refine btrans ?_ (balloc _ _)))).mono ?_; rintro e w1 ⟨rfl, hb1⟩; obtain ⟨hc1, hf1⟩ := bcell hb1; have hz1 := size1 hb1) | (go_at_call 15; refine (HFR.out _ (by repeat (first | assumption | (with_reducible exact Below.refl _ _) | exact balloc _ _ | exact balloc2 _ _ _ | refine btrans ?_ (by assumption) | refine btrans ?_ (balloc _ _)))).mono ?_; rintro e w2 ⟨rfl, hb2⟩; obtain ⟨hc2, hf2⟩ := bcell hb2; have hz2 := Nat.lt_of_lt_of_le hz1 hb2.size) | (at_builtin; refine wpList_append_own_none rfl _ _ 29 rfl w.heap.size 59 j0 7 Tryz.underlying29 hj (.slice none 0 0) 0 [] rfl (World.ownsRow_nil _ _ _ _) rfl ?_) | fail)
      have HAB := Lib.hid (ab_one kd tn who br sc none 0 0 nm pl none 0 0 hv hfz OWN.out (btrans hb1 hb2))
      generalize World.setCell _ _ _ = W at *
      have HSK := Lib.hid HAB.out.sk
      have hlt0 := HAB.out.lt
      have hfw := HAB.out.fz
      clear hb1 hb2 hc1 hc2 hf1 hf2 hz1 hv hfz
      obtain ⟨x0, x1, x2, x3, x4, x5, x6, x7, x8⟩ := HSK.out
      have hbW : b < W.heap.size := Nat.lt_trans hz hlt0
      go_region_law ((refine step_append_lies _ (by rfl) _ _ _ (by rfl) base 33 i0 (.agg #[.int .i64 0, .int .i64 0, .string .empty, .int .i64 0, .string .empty, .slice none 0 0, .string .empty, .int .i64 0]) 8 104 Tryz.underlying23 hi hz0 hz1' hz2' rfl (by decide) (.slice a0 l.length cap) l.length (flatR l) (by rfl) (World.ownsRow.alloc (w := W.drew) HAB.out.own _) ⟨W.heap.size, 0, none⟩ 1 1 (flatR [⟨⟨kd, tn, who, pl⟩, br, sc, none, 0, 0, nm⟩]) (by rfl) (by rfl) (World.news_of_block (heap_alloc_new _ _)) (flatR_one _) (by decide) (by unfold maxLen; omega) (by omega) (by simp; omega) (W.heap.size + 1) (by simp) ?_; intro g cap2 w5 hown5 hgrow hat hlt; have hf5 : w5.frozen? ⟨b, 0, none⟩ = false := (hgrow.frozen_far ⟨b, 0, none⟩ (by simp; omega) hn1).trans ((World.frozen?_alloc_old W _ ⟨b, 0, none⟩ (Nat.ne_of_lt (Nat.lt_trans hz hlt0))).trans hfw); have hs5 : w5.cell? ⟨b, 0, none⟩ = some (.slice a0 l.length cap) := (hgrow.cell_far ⟨b, 0, none⟩ (by simp; omega) hn1).trans ((World.cell?_alloc_lt W _ ⟨b, 0, none⟩ (Nat.lt_trans hz hlt0)).trans HAB.out.cb)))
      all_goals
        go_wp2_with fail
        go_ret
        exact ⟨rfl, add_fin rfl HAB.out hbb hown5 hgrow hat hf5 hs5⟩
    | some ad =>
      go_enter Tryz.func7, Tryz.ntmps7
      go_wp2_with (first | (go_at_call 14; refine (HCK.out _ (by repeat (first | assumption | (with_reducible exact Below.refl _ _) | exact balloc _ _ | exact balloc2 _ _ _ | refine btrans ?_ (by assumption) | refine btrans ?_ (balloc _ _)))).mono ?_; rintro e w1 ⟨rfl, hb1⟩; obtain ⟨hc1, hf1⟩ := bcell hb1; have hz1 := size1 hb1) | (go_at_call 15; refine (HFR.out _ (by repeat (first | assumption | (with_reducible exact Below.refl _ _) | exact balloc _ _ | exact balloc2 _ _ _ | refine btrans ?_ (by assumption) | refine btrans ?_ (balloc _ _)))).mono ?_; rintro e w2 ⟨rfl, hb2⟩; obtain ⟨hc2, hf2⟩ := bcell hb2; have hz2 := Nat.lt_of_lt_of_le hz1 hb2.size) | (at_builtin; refine wpList_append_own _ rfl _ _ 29 rfl w.heap.size 59 j0 (.agg #[.string .empty, .int .i64 0, .int .i64 0, .int .i64 0, .float .f64 0, .string .empty, .bool false]) 7 72 Tryz.underlying29 hj hj0 hj1 hj2 rfl (by decide) (.slice none 0 0) 0 [] rfl (World.ownsRow_nil _ _ _ _) ad cs.length cc (flatC cs) rfl (flatC_len cs) ?news (flatC_one cs) (by unfold maxLen; omega) (by omega) (by have := hb2.size; omega) ?_; rotate_left; (case news => exact conds_all (HR.out.hc.below (btrans (btrans (balloc _ _) hb1) hb2))); intro v3 w3 hown3 hgrow3 hnil3; obtain ⟨b0, c2, cp, hv3⟩ := own_slice hown3; subst hv3; have hb3 : Below w2.heap.size w2 w3 := Below.grown (Below.refl _ _) hgrow3 (Nat.le_refl _) (fun q hq => by cases hq); obtain ⟨hc3, hf3⟩ := bcell hb3; have hz3 := Nat.lt_of_lt_of_le hz2 hb3.size) | fail)
      have HAB := Lib.hid (ab_one kd tn who br sc (some ad) cs.length cc nm pl b0 c2 cp hv hfz OWN.out (btrans (btrans hb1 hb2) hb3))
      generalize World.setCell _ _ _ = W at *
      have HSK := Lib.hid HAB.out.sk
      have hlt0 := HAB.out.lt
      have hfw := HAB.out.fz
      clear hb1 hb2 hb3 hc1 hc2 hc3 hf1 hf2 hf3 hz1 hz3 hv hfz
      obtain ⟨x0, x1, x2, x3, x4, x5, x6, x7, x8⟩ := HSK.out
      have hbW : b < W.heap.size := Nat.lt_trans hz hlt0
      go_region_law ((refine step_append_lies _ (by rfl) _ _ _ (by rfl) base 33 i0 (.agg #[.int .i64 0, .int .i64 0, .string .empty, .int .i64 0, .string .empty, .slice none 0 0, .string .empty, .int .i64 0]) 8 104 Tryz.underlying23 hi hz0 hz1' hz2' rfl (by decide) (.slice a0 l.length cap) l.length (flatR l) (by rfl) (World.ownsRow.alloc (w := W.drew) HAB.out.own _) ⟨W.heap.size, 0, none⟩ 1 1 (flatR [⟨⟨kd, tn, who, pl⟩, br, sc, b0, c2, cp, nm⟩]) (by rfl) (by rfl) (World.news_of_block (heap_alloc_new _ _)) (flatR_one _) (by decide) (by unfold maxLen; omega) (by omega) (by simp; omega) (W.heap.size + 1) (by simp) ?_; intro g cap2 w5 hown5 hgrow hat hlt; have hf5 : w5.frozen? ⟨b, 0, none⟩ = false := (hgrow.frozen_far ⟨b, 0, none⟩ (by simp; omega) hn1).trans ((World.frozen?_alloc_old W _ ⟨b, 0, none⟩ (Nat.ne_of_lt (Nat.lt_trans hz hlt0))).trans hfw); have hs5 : w5.cell? ⟨b, 0, none⟩ = some (.slice a0 l.length cap) := (hgrow.cell_far ⟨b, 0, none⟩ (by simp; omega) hn1).trans ((World.cell?_alloc_lt W _ ⟨b, 0, none⟩ (Nat.lt_trans hz hlt0)).trans HAB.out.cb)))
      all_goals
        go_wp2_with fail
        go_ret
        exact ⟨rfl, add_fin rfl HAB.out hbb hown5 hgrow hat hf5 hs5⟩
  · obtain ⟨⟨kd, tn, who, pl⟩, br, sc, c0, cn, cc, nm⟩ := r
    dsimp only at *
    have hno2 := HNO.out rfl
    have HNO2 := Lib.hid hno2; clear hno2 HNO
    go_enter Tryz.func7, Tryz.ntmps7
    go_wp2_with (first | (go_at_call 14; refine (HCK.out _ (by repeat (first | assumption | (with_reducible exact Below.refl _ _) | exact balloc _ _ | exact balloc2 _ _ _ | refine btrans ?_ (by assumption) | refine btrans ?_ (balloc _ _)))).mono ?_; rintro e w1 ⟨rfl, hb1⟩; obtain ⟨hc1, hf1⟩ := bcell hb1; have hz1 := size1 hb1) | (go_at_call 15; refine (HFR.out _ (by repeat (first | assumption | (with_reducible exact Below.refl _ _) | exact balloc _ _ | exact balloc2 _ _ _ | refine btrans ?_ (by assumption) | refine btrans ?_ (balloc _ _)))).mono ?_; rintro e w2 ⟨rfl, hb2⟩; obtain ⟨hc2, hf2⟩ := bcell hb2; have hz2 := Nat.lt_of_lt_of_le hz1 hb2.size) | (go_at_call 16; refine (HNO2.out _ (by repeat (first | assumption | (with_reducible exact Below.refl _ _) | exact balloc _ _ | exact balloc2 _ _ _ | refine btrans ?_ (by assumption) | refine btrans ?_ (balloc _ _)))).mono ?_; rintro e w3 ⟨b0, cp, rfl, hb3⟩; obtain ⟨hc3, hf3⟩ := bcell hb3; have hz3 := Nat.lt_of_lt_of_le hz2 hb3.size) | fail)
    generalize (normL cs).length = c2 at *
    have HAB := Lib.hid (ab_two kd tn who br sc c0 cn cc nm pl b0 c2 cp hv hfz OWN.out (btrans (btrans hb1 hb2) hb3))
    generalize World.setCell _ _ _ = W at *
    have HSK := Lib.hid HAB.out.sk
    have hlt0 := HAB.out.lt
    have hfw := HAB.out.fz
    clear hb1 hb2 hb3 hc1 hc2 hc3 hf1 hf2 hf3 hz1 hz2 hz3 hv hfz
    obtain ⟨x0, x1, x2, x3, x4, x5, x6, x7, x8⟩ := HSK.out
    have hbW : b < W.heap.size := Nat.lt_trans hz hlt0
    go_region_law ((refine step_append_lies _ (by rfl) _ _ _ (by rfl) base 33 i0 (.agg #[.int .i64 0, .int .i64 0, .string .empty, .int .i64 0, .string .empty, .slice none 0 0, .string .empty, .int .i64 0]) 8 104 Tryz.underlying23 hi hz0 hz1' hz2' rfl (by decide) (.slice a0 l.length cap) l.length (flatR l) (by rfl) (World.ownsRow.alloc (w := W.drew) HAB.out.own _) ⟨W.heap.size, 0, none⟩ 1 1 (flatR [⟨⟨kd, tn, who, pl⟩, br, sc, b0, c2, cp, nm⟩]) (by rfl) (by rfl) (World.news_of_block (heap_alloc_new _ _)) (flatR_one _) (by decide) (by unfold maxLen; omega) (by omega) (by simp; omega) (W.heap.size + 1) (by simp) ?_; intro g cap2 w5 hown5 hgrow hat hlt; have hf5 : w5.frozen? ⟨b, 0, none⟩ = false := (hgrow.frozen_far ⟨b, 0, none⟩ (by simp; omega) hn1).trans ((World.frozen?_alloc_old W _ ⟨b, 0, none⟩ (Nat.ne_of_lt (Nat.lt_trans hz hlt0))).trans hfw); have hs5 : w5.cell? ⟨b, 0, none⟩ = some (.slice a0 l.length cap) := (hgrow.cell_far ⟨b, 0, none⟩ (by simp; omega) hn1).trans ((World.cell?_alloc_lt W _ ⟨b, 0, none⟩ (Nat.lt_trans hz hlt0)).trans HAB.out.cb)))
    all_goals
      go_wp2_with fail
      go_ret
      exact ⟨rfl, add_fin rfl HAB.out hbb hown5 hgrow hat hf5 hs5⟩
end Go.Proofs.YtfkedobofamkiaaGreatDoor.Pol
end

section
/- THE WALK OF (*policy.Log).At: how many rules count by a version. -/
namespace Go.Proofs.YtfkedobofamkiaaGreatDoor.Pol
open Go.RowKit Flt Go.Proofs.YtfkedobofamkiaaGreatDoor.Val
attribute [local go_sem] run_store_flt
/-- the rules that count -/
def atR (l : List R) (v k : Nat) : List R := (atP (ks l) v k).map fun i => l[i]!
theorem atR_len (l : List R) (v k : Nat) : (atR l v k).length = (atP (ks l) v k).length := by simp [atR]
theorem atR_succ (l : List R) (v k : Nat) (h : k < l.length) : atR l v (k + 1) = atR l v k ++ (if countB (ks l) v k then [l[k]] else []) := by
  unfold atR
  rw [atP_succ, List.map_append]
  congr 1
  cases countB (ks l) v k
  · rfl
  · show [l[k]!] = [l[k]]
    rw [getElem!_pos l k h]
set_option maxRecDepth 20000 in
set_option maxHeartbeats 4000000 in
theorem at_any (b : Nat) (a0 : Option Addr) (cap : Nat) (l : List R) (v : Nat) (w : World) (hl : Log w b a0 cap l) (hlm : l.length ≤ 1000000) (hcap : l.length ≤ cap) (hv : v ≤ l.length) :
    Calls Tryz.prog 10 #[.pointer (some ⟨b, 0, none⟩), .int .i64 v] w fun e w' => ∃ c0 cp, e = .returned (.slice c0 (atP (ks l) v v).length cp) ∧ Rules w' c0 (atR l v v) ∧ Below w.heap.size w w' := by
  have h0 := hl.1
  have hgo (i : Int) (W : World) (h : Below w.heap.size w W) := gone_any b a0 cap l i v W (hl.below h) hlm hv hcap
  have HL := Lib.hid hl; have HGO := Lib.hid hgo
  clear hl hgo
  have q1 : (0 : Int) ≤ (v : Int) := by omega
  have q2 : (v : Int) ≤ (l.length : Int) := by omega
  have q3 : (v : Int) ≤ (cap : Int) := by omega
  have m1 : max (v : Int) 0 = (v : Int) := by omega
  have m2 : min (v : Int) (l.length : Int) = (v : Int) := by omega
  obtain ⟨i0, hi, hz0, hz1', hz2'⟩ := info_parts info_rule
  go_enter Tryz.func10, Tryz.ntmps10
  go_wp2_with fail
  go_loopw [5, 23] (fun vl vi wr => ∃ (k : Nat) (vo : Value), k ≤ v ∧ vi = .int .i64 k ∧ vo = vl ∧ wr.ownsRow w.heap.size 33 8 vo (atR l v k).length (flatR (atR l v k)) ∧ Below w.heap.size w wr) (fun _ vi _ => v - (intOf vi).toNat)
  case atStart => exact ⟨0, _, Nat.zero_le _, rfl, rfl, World.ownsRow_nil _ _ _ _, Below.refl _ _⟩
  case round =>
    obtain ⟨k, vo, hk, rfl, rfl, hown, hbr⟩ := hrel
    have hls : (atR l v k).length ≤ k := by rw [atR_len]; unfold atP; exact Nat.le_trans (List.length_filter_le _ _) (by simp)
    have hbz := hbr.size
    have HBR := Lib.hid hbr
    have hlr := HL.out.below hbr
    have hr0 := hlr.1
    have hrb := hlr.lt
    clear hbr
    by_cases hlt : k < v
    · have hkl : k < l.length := by omega
      have i1 : (k : Int) < (v : Int) := by omega
      have i0' : (0 : Int) ≤ (k : Int) := by omega
      have hsu := atR_succ l v k hkl
      have hcb : countB (ks l) v k = ((l[k].k.kind != 4) && !goneB ((ks l).take v) k) := by unfold countB; rw [ks_get l k hkl]
      rw [hcb] at hsu
      have hgk (W : World) (h : Below w.heap.size w W) := HGO.out (k : Int) W h
      have how (W : World) (h : Below wr.heap.size wr W) : W.ownsRow w.heap.size 33 8 vo (atR l v k).length (flatR (atR l v k)) := Fmt.own_low hown h (fun q hq => (hown.lt q hq).2)
      have hown0 := hown
      obtain ⟨a, rfl, v0, v1, v2, v3, v4, v5, v6, v7⟩ := hlr.2 k hkl
      clear hcb hlr hown
      generalize goneB ((ks l).take v) k = G at *
      generalize l[k] = r at *
      have HSU := Lib.hid hsu; have HGK := Lib.hid hgk; have HOW := Lib.hid how; have HO0 := Lib.hid hown0
      clear hsu hgk how hown0 HGO
      cases k4 : (r.k.kind == 4)
      rotate_left
      · have n4 : (r.k.kind != 4) = false := by rw [bne, k4]; rfl
        go_wp2_with fail
        refine ⟨⟨k + 1, _, by omega, by go_num, rfl, ?_, btrans HBR.out (balloc _ _)⟩, by simp [intOf]; go_num⟩
        rw [HSU.out, n4]
        simpa using HOW.out _ (balloc _ _)
      · have n4 : (r.k.kind != 4) = true := by rw [bne, k4]; rfl
        cases G
        rotate_left
        · go_wp2_with (first | (go_at_call 18; refine (HGK.out _ (btrans HBR.out (balloc _ _))).mono ?_; rintro e w5 ⟨rfl, hb5⟩) | fail)
          refine ⟨⟨k + 1, _, by omega, by go_num, rfl, ?_, btrans (btrans HBR.out (balloc _ _)) hb5⟩, by simp [intOf]; go_num⟩
          rw [HSU.out, n4]
          simpa using HOW.out _ (btrans (balloc _ _) hb5)
        · go_wp2_with (first | (go_at_call 18; refine (HGK.out _ (btrans HBR.out (balloc _ _))).mono ?_; rintro e w5 ⟨rfl, hb5⟩; obtain ⟨hc5, hf5⟩ := bcell hb5; have hs5 := size1 hb5) | (at_builtin; refine wpList_append_own _ rfl _ _ 23 rfl w.heap.size 33 i0 (.agg #[.int .i64 0, .int .i64 0, .string .empty, .int .i64 0, .string .empty, .slice none 0 0, .string .empty, .int .i64 0]) 8 104 Tryz.underlying23 hi hz0 hz1' hz2' rfl (by decide) vo _ _ rfl (World.ownsRow.alloc (HOW.out w5 (btrans (balloc _ _) hb5)) _) ⟨w5.heap.size, 0, none⟩ 1 1 (flatR [r]) rfl rfl (World.news_of_block (heap_alloc_new _ _)) (flatR_one _) (by unfold maxLen; omega) (by omega) (by simp; omega) ?_; intro v9 w6 hown6 hgrow6 hnil6) | fail)
          all_goals
            have hb6 : Below w.heap.size w w6 := Below.grown (btrans (btrans (btrans HBR.out (balloc _ _)) hb5) (balloc _ _)) hgrow6 (by simp; omega) (fun q hq => (HO0.out.lt q hq).1)
            refine ⟨⟨k + 1, _, by omega, by go_num, rfl, ?_, hb6⟩, by simp [intOf]; go_num⟩
            rw [HSU.out, n4]
            simpa [flatR_app] using hown6
    · have i1 : ¬ (k : Int) < (v : Int) := by omega
      obtain rfl : k = v := by omega
      obtain ⟨c0, cp, rfl, hR⟩ := own_rules hown
      clear hown
      rw [atR_len]
      go_wp2_with fail
      go_ret
      exact ⟨c0, ⟨cp, rfl⟩, hR, HBR.out⟩
end Go.Proofs.YtfkedobofamkiaaGreatDoor.Pol
end

section
/- THE WALK OF policy.Replay. -/
namespace Go.Proofs.YtfkedobofamkiaaGreatDoor.Pol
open Go.RowKit Flt Go.Proofs.YtfkedobofamkiaaGreatDoor.Val
attribute [local go_sem] run_store_flt
/-- a log: its box, its row -/
structure LogO (w : World) (b base : Nat) (v : Value) (l : List R) : Prop where
  cb : w.cell? ⟨b, 0, none⟩ = some v
  fz : w.frozen? ⟨b, 0, none⟩ = false
  own : w.ownsRow base 33 8 v l.length (flatR l)
theorem LogO.log {w : World} {b base : Nat} {v : Value} {l : List R} (h : LogO w b base v l) : ∃ a0 cap, v = .slice a0 l.length cap ∧ Log w b a0 cap l ∧ l.length ≤ cap := by
  obtain ⟨a0, cap, rfl, hru⟩ := own_rules h.own
  refine ⟨a0, cap, rfl, ⟨h.cb, hru⟩, ?_⟩
  rcases h.own.2 with ⟨e, e0⟩ | ⟨g, cp, cur, e, _, _, hn, _⟩
  · omega
  · cases e; exact hn
theorem LogO.below {w w2 : World} {b base : Nat} {v : Value} {l : List R} (h : LogO w b base v l) (hb : Below w.heap.size w w2) : LogO w2 b base v l :=
  have hz := World.block_lt_of_cell? _ _ h.cb
  ⟨(hb.cell (p := ⟨b, 0, none⟩) hz).trans h.cb, (hb.frozen (p := ⟨b, 0, none⟩) hz).trans h.fz, Fmt.own_low h.own hb (fun k hk => (h.own.lt k hk).2)⟩
/-- a rule that may be added: what its conditions are -/
structure ROn (w : World) (r : R) (cs : List C) : Prop where
  ok : ROk w r cs
  nil : r.c0 = none → r.cn = 0 ∧ r.cc = 0
  sm : fRight r.sc cs = true → cs.length ≤ 19 ∧ ∀ c ∈ cs, CSmall c ∧ 0 ≤ c.op ∧ c.op ≤ 7
theorem ROn.below {w w2 : World} {r : R} {cs : List C} (h : ROn w r cs) (hb : Below w.heap.size w w2) : ROn w2 r cs := ⟨h.ok.below hb, h.nil, h.sm⟩
theorem LogO.no {w : World} {b base : Nat} {v : Value} {l : List R} {r : R} {cs : List C} (h : LogO w b base v l) (hlm : l.length ≤ 1000000) (hr : ROn w r cs) (hne : checkE (ks l) (aclB r cs) r.k ≠ 0) :
    Calls Tryz.prog 7 #[.pointer (some ⟨b, 0, none⟩), rv r] w fun e w' => e = .returned (.int .i64 (checkE (ks l) (aclB r cs) r.k)) ∧ Below w.heap.size w w' := by
  obtain ⟨a0, cap, rfl, hl, hcap⟩ := h.log
  exact add_no b a0 cap l r cs w hl hlm hcap hr.ok hne
theorem LogO.yes {w : World} {b base : Nat} {v : Value} {l : List R} {r : R} {cs : List C} (h : LogO w b base v l) (hbb : b < base) (hbs : base ≤ w.heap.size) (hlm : l.length ≤ 1000000) (hr : ROn w r cs) (hw : Words w) (hT : Tab.Tabs w) (h0 : checkE (ks l) (aclB r cs) r.k = 0) :
    Calls Tryz.prog 7 #[.pointer (some ⟨b, 0, none⟩), rv r] w fun e w' => e = .returned (.int .i64 0) ∧ ∃ (v' : Value) (r' : R), ks (l ++ [r']) = ks l ++ [r.k] ∧ LogO w' b base v' (l ++ [r']) ∧ Kept w b v.ownBlock w' ∧ (v'.ownBlock = v.ownBlock ∨ ∃ k, v'.ownBlock = some k ∧ w.heap.size ≤ k) := by
  refine (add_yes b base v l r cs w h.cb h.fz h.own hbb hbs hr.ok hr.nil hw hT hr.sm h0 hlm).mono ?_
  rintro e w' ⟨rfl, v', r', hk, hc, ho, hf, hke, hob⟩
  exact ⟨rfl, v', r', by rw [ks_app]; show ks l ++ [r'.k] = _; rw [hk], ⟨hc, hf, by rw [List.length_append]; exact ho⟩, hke, hob⟩
/-- where a log's box and row lie behind B, an Add leaves all below alone -/
theorem Kept.below {w w' : World} {b B : Nat} {row : Option Nat} (h : Kept w b row w') (hB : B ≤ w.heap.size) (hb : B ≤ b) (hr : ∀ k, row = some k → B ≤ k) : Below B w w' :=
  ⟨h.os, h.tape, h.output, h.size, fun k hk => h.block k (by omega) (by omega) (fun e => by have := hr k e.symm; omega)⟩
end Go.Proofs.YtfkedobofamkiaaGreatDoor.Pol
end

section
/- THE WALK OF policy.Replay. -/
namespace Go.Proofs.YtfkedobofamkiaaGreatDoor.Pol
open Go.RowKit Flt Go.Proofs.YtfkedobofamkiaaGreatDoor.Val
attribute [local go_sem] run_store_flt
/-- the error of the rule at a place, behind those ahead of it -/
def errAt (l : List R) (f : R → List C) (j : Nat) : Int := checkE ((ks l).take j) (aclB l[j]! (f l[j]!)) l[j]!.k
/-- what Replay answers: its log holds the first n rules, n is the place of the first that may not be -/
def RepSays (w : World) (l : List R) (f : R → List C) (e : Ending) (w' : World) : Prop :=
  ∃ (n : Nat) (m : List R) (v : Value), e = .returned (.tuple #[.pointer (some ⟨w.heap.size, 0, none⟩), .int .i64 n]) ∧ n ≤ l.length ∧ ks m = (ks l).take n ∧ (∀ j, j < n → errAt l f j = 0) ∧ (n < l.length → errAt l f n ≠ 0) ∧ LogO w' w.heap.size (w.heap.size + 1) v m
theorem rep_says {w w' : World} {l : List R} {f : R → List C} {e : Ending} (n : Nat) (m : List R) (v : Value) (he : e = .returned (.tuple #[.pointer (some ⟨w.heap.size, 0, none⟩), .int .i64 n])) (h1 : n ≤ l.length) (h2 : ks m = (ks l).take n) (h3 : ∀ j, j < n → errAt l f j = 0) (h4 : n < l.length → errAt l f n ≠ 0) (h5 : LogO w' w.heap.size (w.heap.size + 1) v m) : RepSays w l f e w' := ⟨n, m, v, he, h1, h2, h3, h4, h5⟩
/-- the state of the loop -/
def RSt (w : World) (l : List R) (f : R → List C) (k : Nat) (wr : World) : Prop :=
  ∃ (m : List R) (v : Value), ks m = (ks l).take k ∧ (∀ j, j < k → errAt l f j = 0) ∧ LogO wr w.heap.size (w.heap.size + 1) v m
theorem RSt.below {w wr w2 : World} {l : List R} {f : R → List C} {k : Nat} (h : RSt w l f k wr) (hb : Below wr.heap.size wr w2) : RSt w l f k w2 := by
  obtain ⟨m, v, h1, h2, h3⟩ := h
  exact ⟨m, v, h1, h2, h3.below hb⟩
theorem RSt.zero {w : World} {l : List R} {f : R → List C} {T : TypeId} : RSt w l f 0 (w.alloc (.cells #[.slice none 0 0] T)) :=
  ⟨[], .slice none 0 0, by simp [ks], fun j hj => by omega, World.cell?_alloc_at _ _ _ _ rfl, by simp, World.ownsRow_nil _ _ _ _⟩
/-- a round that adds -/
theorem RSt.yes {w wr : World} {l : List R} {f : R → List C} {k : Nat} (h : RSt w l f k wr) (hk : k < l.length) (hlm : l.length ≤ 1000000) (hs : w.heap.size + 1 ≤ wr.heap.size) (hr : ROn wr l[k] (f l[k])) (hw : Words wr) (hT : Tab.Tabs wr) (h0 : errAt l f k = 0) :
    Calls Tryz.prog 7 #[.pointer (some ⟨w.heap.size, 0, none⟩), rv l[k]] wr fun e w' => e = .returned (.int .i64 0) ∧ RSt w l f (k + 1) w' ∧ Below w.heap.size wr w' ∧ wr.heap.size ≤ w'.heap.size := by
  obtain ⟨m, v, h1, h2, h3⟩ := h
  have hm : m.length = k := by have := congrArg List.length h1; rw [ks_len, List.length_take, ks_len] at this; omega
  have e0 : checkE (ks m) (aclB l[k] (f l[k])) l[k].k = 0 := by
    unfold errAt at h0
    rw [getElem!_pos l k hk, ← h1] at h0
    exact h0
  refine (h3.yes (Nat.lt_succ_self _) hs (by omega) hr hw hT e0).mono ?_
  rintro e w' ⟨rfl, v', r', hks, hlo, hke, hob⟩
  refine ⟨rfl, ⟨m ++ [r'], v', ?_, fun j hj => ?_, hlo⟩, hke.below (by omega) (Nat.le_refl _) (fun q hq => by have := (h3.own.lt q hq).1; omega), hke.size⟩
  · rw [hks, h1, List.take_add_one]
    congr 1
    rw [List.getElem?_eq_getElem (by rw [ks_len]; exact hk)]
    simp [ks]
  · by_cases e : j = k
    · subst e; exact h0
    · exact h2 j (by omega)
theorem RSt.no {w wr : World} {l : List R} {f : R → List C} {k : Nat} (h : RSt w l f k wr) (hk : k < l.length) (hlm : l.length ≤ 1000000) (hr : ROn wr l[k] (f l[k])) (h0 : errAt l f k ≠ 0) :
    Calls Tryz.prog 7 #[.pointer (some ⟨w.heap.size, 0, none⟩), rv l[k]] wr fun e w' => e = .returned (.int .i64 (errAt l f k)) ∧ Below wr.heap.size wr w' := by
  obtain ⟨m, v, h1, h2, h3⟩ := h
  have hm : m.length = k := by have := congrArg List.length h1; rw [ks_len, List.length_take, ks_len] at this; omega
  have e0 : checkE (ks m) (aclB l[k] (f l[k])) l[k].k = errAt l f k := by
    unfold errAt
    rw [getElem!_pos l k hk, ← h1]
  rw [← e0] at h0 ⊢
  exact h3.no (by omega) hr h0
set_option maxRecDepth 20000 in
set_option maxHeartbeats 4000000 in
theorem replay_any (a0 : Option Addr) (cap : Nat) (l : List R) (f : R → List C) (w : World) (hl : Rules w a0 l) (hlm : l.length ≤ 1000000) (hin : ∀ r ∈ l, ROn w r (f r)) (hw : Words w) (hT : Tab.Tabs w) :
    Calls Tryz.prog 12 #[.slice a0 l.length cap] w fun e w' => RepSays w l f e w' ∧ Below w.heap.size w w' := by
  have HL := Lib.hid hl; have HIN := Lib.hid hin; have HW := Lib.hid hw; have HT := Lib.hid hT
  clear hl hin hw hT
  go_enter Tryz.func12, Tryz.ntmps12
  go_wp2_with fail
  go_loopw [11] (fun vi wr => ∃ k : Nat, k ≤ l.length ∧ vi = .int .i64 k ∧ RSt w l f k wr ∧ Below w.heap.size w wr ∧ w.heap.size + 1 ≤ wr.heap.size) (fun vi _ => l.length - (intOf vi).toNat)
  case atStart => exact ⟨0, Nat.zero_le _, rfl, RSt.zero, balloc _ _, by simp⟩
  case round =>
    obtain ⟨k, hk, rfl, hst, hbr, hsz⟩ := hrel
    have HBR := Lib.hid hbr; have HST := Lib.hid hst; clear hbr hst
    by_cases hlt : k < l.length
    · have i1 : (k : Int) < (l.length : Int) := by omega
      have i0 : (0 : Int) ≤ (k : Int) := by omega
      obtain ⟨a, rfl, v0, v1, v2, v3, v4, v5, v6, v7⟩ := (HL.out.below HBR.out) k hlt
      by_cases h0 : errAt l f k = 0
      · have hadd (W : World) (h : Below wr.heap.size wr W) := (HST.out.below h).yes hlt hlm (Nat.le_trans hsz h.size) ((HIN.out _ (List.getElem_mem hlt)).below (btrans HBR.out h)) (HW.out.below (btrans HBR.out h)) (HT.out.below (btrans HBR.out h) (Nat.le_refl _)) h0
        generalize hrk : l[k] = r at *
        clear hrk
        have HADD := Lib.hid hadd; clear hadd
        obtain ⟨⟨kd, tn, who, pl⟩, br, sc, c0, cn, cc, nm⟩ := r
        go_wp2_with (first | (go_at_call 7; refine (HADD.out _ (balloc _ _)).mono ?_; rintro e w5 ⟨rfl, hst5, hb5, hs5⟩) | fail)
        exact ⟨⟨k + 1, by omega, by go_num, hst5, (btrans HBR.out (balloc _ _)).trans hb5, by simp at hs5; omega⟩, by simp [intOf]; go_num⟩
      · have hadd (W : World) (h : Below wr.heap.size wr W) := (HST.out.below h).no hlt hlm ((HIN.out _ (List.getElem_mem hlt)).below (btrans HBR.out h)) h0
        have hne : (errAt l f k != 0) = true := by simpa using h0
        generalize hrk : l[k] = r at *
        clear hrk
        generalize hE : errAt l f k = E at *
        have HADD := Lib.hid hadd; have HE := Lib.hid hE; have H0 := Lib.hid h0; clear hadd hE h0
        obtain ⟨⟨kd, tn, who, pl⟩, br, sc, c0, cn, cc, nm⟩ := r
        go_wp2_with (first | (go_at_call 7; refine (HADD.out _ (balloc _ _)).mono ?_; rintro e w5 ⟨rfl, hb5⟩) | fail)
        go_returns
        obtain ⟨m, v, h1, h2, h3⟩ := HST.out.below (btrans (balloc _ _) hb5)
        exact ⟨rep_says k m v rfl (by omega) h1 h2 (fun _ => by rw [HE.out]; exact H0.out) h3, btrans (btrans HBR.out (balloc _ _)) hb5⟩
    · have i1 : ¬ (k : Int) < (l.length : Int) := by omega
      obtain rfl : k = l.length := by omega
      go_wp2_with fail
      go_returns
      obtain ⟨m, v, h1, h2, h3⟩ := HST.out
      exact ⟨rep_says l.length m v rfl (Nat.le_refl _) h1 h2 (fun h => by omega) h3, HBR.out⟩
end Go.Proofs.YtfkedobofamkiaaGreatDoor.Pol
end

section
/- THE WALK OF fit of chapter 12's laws. -/
namespace Go.Proofs.YtfkedobofamkiaaGreatDoor.Pol
open Go.RowKit Flt Go.Proofs.YtfkedobofamkiaaGreatDoor.Val
attribute [local go_sem] run_store_flt
def mkR (kd : Int) (who : List UInt8) (pl : Int) : R := ⟨⟨kd, 0, who, pl⟩, 0, [], none, 0, 0, []⟩
def L4 : List R := [mkR 0 [97] 0, mkR 1 [97] 0, mkR 4 [] 1, mkR 0 [97] 0]
theorem e40 : errAt L4 (fun _ => []) 0 = 0 := by decide
theorem e41 : errAt L4 (fun _ => []) 1 = 0 := by decide
theorem e42 : errAt L4 (fun _ => []) 2 = 0 := by decide
theorem e43 : errAt L4 (fun _ => []) 3 ≠ 0 := by decide
theorem at2 : (atP ((ks L4).take 3) 2 2).length = 2 := by decide
theorem at3 : (atP ((ks L4).take 3) 3 3).length = 1 := by decide
theorem rep4 {w w' : World} {e : Ending} (h : RepSays w L4 (fun _ => []) e w') : ∃ (m : List R) (v : Value), e = .returned (.tuple #[.pointer (some ⟨w.heap.size, 0, none⟩), .int .i64 3]) ∧ ks m = (ks L4).take 3 ∧ LogO w' w.heap.size (w.heap.size + 1) v m := by
  obtain ⟨n, m, v, he, h1, h2, h3, h4, h5⟩ := h
  have hn : n = 3 := by
    have hl : L4.length = 4 := rfl
    rw [hl] at h1 h4
    by_cases a : 3 < n
    · exact absurd (h3 3 a) e43
    · by_cases b : n = 3
      · exact b
      · have hn : n = 0 ∨ n = 1 ∨ n = 2 := by omega
        rcases hn with rfl | rfl | rfl
        · exact absurd e40 (h4 (by omega))
        · exact absurd e41 (h4 (by omega))
        · exact absurd e42 (h4 (by omega))
  subst hn
  exact ⟨m, v, he, h2, h5⟩
theorem rules_block {w : World} {l : List R} {cs : Array Value} {T : TypeId} (hc : cs.toList = flatR l) : Rules (w.alloc (.cells cs T)) (some ⟨w.heap.size, 0, none⟩) l := by
  intro i hi
  refine ⟨_, rfl, ?_⟩
  have k : ∀ j (hj : j < 8), (w.alloc (.cells cs T)).cell? ⟨w.heap.size, i * 8 + j, none⟩ = (cells8 l[i])[j]? := by
    intro j hj
    have hm := flatR_at l i j hi hj
    rw [World.cell?_alloc_at _ _ _ _ rfl, ← hm, ← hc, Array.getElem?_toList]
  have hadd : (⟨w.heap.size, 0, none⟩ : Addr).add (i * 8) = ⟨w.heap.size, i * 8, none⟩ := by unfold Addr.add; split <;> simp_all
  rw [hadd]
  exact ⟨k 0 (by omega), k 1 (by omega), k 2 (by omega), k 3 (by omega), k 4 (by omega), k 5 (by omega), k 6 (by omega), k 7 (by omega)⟩
theorem on4 (w : World) : ∀ r ∈ L4, ROn w r [] := by
  intro r hr
  have : r = mkR 0 [97] 0 ∨ r = mkR 1 [97] 0 ∨ r = mkR 4 [] 1 := by
    simp only [L4, List.mem_cons, List.not_mem_nil, or_false] at hr
    rcases hr with h | h | h | h
    · exact .inl h
    · exact .inr (.inl h)
    · exact .inr (.inr h)
    · exact .inl h
  rcases this with rfl | rfl | rfl <;> exact ⟨⟨conds_nil _ _, rfl, by decide, by decide, by decide, by decide, fun c hc => by cases hc⟩, fun _ => ⟨rfl, rfl⟩, fun _ => ⟨by decide, fun c hc => by cases hc⟩⟩
set_option maxRecDepth 20000 in
set_option maxHeartbeats 2000000 in
theorem mayp_none (w : World) : Calls Tryz.prog 13 #[.slice none 0 0, .int .i64 0, .string ⟨#[97]⟩, .agg #[.string ⟨#[]⟩, .slice none 0 0]] w fun e w' => e = .returned (.bool false) ∧ Below w.heap.size w w' := by
  have hho (W : World) : Calls Tryz.prog 19 #[.slice none 0 0, .int .i64 0, .string ⟨#[97]⟩] W fun e w' => (∃ br : Int, e = .returned (.tuple #[.int .i64 br, .bool false])) ∧ Below W.heap.size W w' := home_any none 0 [] 0 [97] W (fun i hi => absurd hi (Nat.not_lt_zero _)) (by decide)
  have HHO := Lib.hid hho; clear hho
  go_enter Tryz.func13, Tryz.ntmps13
  go_wp2_with (first | (go_at_call 19; refine (HHO.out _).mono ?_; rintro e w1 ⟨⟨br, rfl⟩, hb1⟩) | fail)
  go_ret
  exact ⟨rfl, by repeat (first | assumption | (with_reducible exact Below.refl _ _) | exact balloc _ _ | exact balloc2 _ _ _ | refine btrans ?_ (by assumption) | refine btrans ?_ (balloc _ _))⟩
theorem log4 {w1 : World} {b b2 base : Nat} {v : Value} {m : List R} (hks : ks m = (ks L4).take 3) (hlo : LogO w1 b base v m) (hb : b = b2) :
    Hid (∀ W, Below w1.heap.size w1 W → Calls Tryz.prog 8 #[.pointer (some ⟨b2, 0, none⟩)] W fun e w' => e = .returned (.int .i64 3) ∧ Below W.heap.size W w') ∧
    Hid (∀ W, Below w1.heap.size w1 W → Calls Tryz.prog 10 #[.pointer (some ⟨b2, 0, none⟩), .int .i64 2] W fun e w' => (∃ c0 cp, e = .returned (.slice c0 2 cp)) ∧ Below W.heap.size W w') ∧
    Hid (∀ W, Below w1.heap.size w1 W → Calls Tryz.prog 10 #[.pointer (some ⟨b2, 0, none⟩), .int .i64 3] W fun e w' => (∃ c0 cp, e = .returned (.slice c0 1 cp)) ∧ Below W.heap.size W w') := by
  subst hb
  have hm3 : m.length = 3 := by have := congrArg List.length hks; rw [ks_len] at this; exact this
  obtain ⟨a1, cap1, rfl, hlog, hcap⟩ := hlo.log
  refine ⟨Lib.hid fun W h => ?_, Lib.hid fun W h => ?_, Lib.hid fun W h => ?_⟩
  · refine (len_any b a1 cap1 m W (hlog.below h)).mono ?_
    rintro e w' ⟨rfl, hb⟩
    exact ⟨by rw [hm3]; rfl, hb⟩
  · refine (at_any b a1 cap1 m 2 W (hlog.below h) (by omega) hcap (by omega)).mono ?_
    rintro e w' ⟨c0, cp, rfl, _, hb⟩
    exact ⟨⟨c0, cp, by rw [hks, at2]⟩, hb⟩
  · refine (at_any b a1 cap1 m 3 W (hlog.below h) (by omega) hcap (by omega)).mono ?_
    rintro e w' ⟨c0, cp, rfl, _, hb⟩
    exact ⟨⟨c0, cp, by rw [hks, at3]⟩, hb⟩
set_option maxRecDepth 20000 in
set_option maxHeartbeats 4000000 in
theorem fit12_any (w : World) (hw : Words w) (hT : Tab.Tabs w) : Calls Tryz.prog 6 #[] w fun e w' => e = .returned (.bool true) ∧ Below w.heap.size w w' := by
  have hrp (W W2 : World) (cs : Array Value) (T : TypeId) (e : W2 = W.alloc (.cells cs T)) (hcs : cs.toList = flatR L4) (hb : Below w.heap.size w W) : Calls Tryz.prog 12 #[.slice (some ⟨W.heap.size, 0, none⟩) 4 4] W2 fun e w' => RepSays W2 L4 (fun _ => []) e w' ∧ Below W2.heap.size W2 w' := by
    subst e
    have hb2 := btrans hb (balloc W (.cells cs T))
    exact replay_any (some ⟨W.heap.size, 0, none⟩) 4 L4 (fun _ => []) _ (rules_block hcs) (by decide) (on4 _) (hw.below hb2) (hT.below hb2 (Nat.le_refl _))
  have hmp (W : World) := mayp_none W
  have HRP := Lib.hid hrp; have HMP := Lib.hid hmp
  clear hrp hmp hw hT
  go_enter Tryz.func6, Tryz.ntmps6
  go_wp2_with (first | (go_at_call 12; refine (HRP.out w _ _ _ rfl rfl (Below.refl _ _)).mono ?_; rintro e w1 ⟨hrep, hb1⟩; obtain ⟨m, v, rfl, hks, hlo⟩ := rep4 hrep; obtain ⟨HLN, HA2, HA3⟩ := log4 (b2 := w.heap.size + 1) hks hlo (by simp); clear hks hlo hrep) | (go_at_call 8; refine (HLN.out _ (Below.refl _ _)).mono ?_; rintro e w2 ⟨rfl, hb2⟩) | (go_at_call 10; with_reducible refine (HA2.out _ hb2).mono ?_; rintro e w3 ⟨⟨c2, p2, rfl⟩, hb3⟩) | (go_at_call 10; with_reducible refine (HA3.out _ (btrans hb2 hb3)).mono ?_; rintro e w4 ⟨⟨c3, p3, rfl⟩, hb4⟩) | (go_at_call 13; refine (HMP.out _).mono ?_; rintro e w5 ⟨rfl, hb5⟩) | fail)
  go_ret
  exact ⟨rfl, by repeat (first | assumption | (with_reducible exact Below.refl _ _) | exact balloc _ _ | exact balloc2 _ _ _ | refine btrans ?_ (by assumption) | refine btrans ?_ (balloc _ _))⟩
end Go.Proofs.YtfkedobofamkiaaGreatDoor.Pol
end

section
/- THE WALK OF the law PolicyFull. -/
namespace Go.Proofs.YtfkedobofamkiaaGreatDoor.Pol
open Go.RowKit Flt Go.Proofs.YtfkedobofamkiaaGreatDoor.Val
attribute [local go_sem] run_store_flt
theorem acl_join (i : Nat) (hi : i < 16) : aclB (mkR 0 (nameP i) 0) [] = true := by
  have h : ∀ i : Fin 16, aclB (mkR 0 (nameP i.1) 0) [] = true := by decide
  exact h ⟨i, hi⟩
theorem acl_pub : aclB (mkR 1 (nameP 0) 0) [] = true := by decide
theorem on_mk (w : World) (kd : Int) (who : List UInt8) (h : who.length ≤ 12) : ROn w (mkR kd who 0) [] :=
  ⟨⟨conds_nil _ _, rfl, by decide, by show (0 : Nat) ≤ _; omega, by show who.length ≤ _; omega, by show (0 : Nat) ≤ _; omega, fun c hc => by cases hc⟩, fun _ => ⟨rfl, rfl⟩, fun _ => ⟨by decide, fun c hc => by cases hc⟩⟩
/-- the log of the law: n principals, j rules behind -/
structure FSt (w : World) (n j : Nat) (W : World) : Prop where
  lg : ∃ (m : List R) (v : Value), ks m = joins n ++ pubs j ∧ LogO W w.heap.size (w.heap.size + 1) v m
  bel : Below w.heap.size w W
  sz : w.heap.size + 1 ≤ W.heap.size
theorem FSt.below {w W W2 : World} {n j : Nat} (h : FSt w n j W) (hb : Below W.heap.size W W2) : FSt w n j W2 := by
  obtain ⟨m, v, h1, h2⟩ := h.lg
  exact ⟨⟨m, v, h1, h2.below hb⟩, btrans h.bel hb, Nat.le_trans h.sz hb.size⟩
theorem full_len {m : List R} {n j : Nat} (h : ks m = joins n ++ pubs j) : m.length = n + j := by
  have := congrArg List.length h
  rw [ks_len, List.length_append, joins_len] at this
  rw [this]; unfold pubs; rw [List.length_replicate]
theorem FSt.add {w W : World} {n j n2 j2 : Nat} (h : FSt w n j W) (hn : n + j ≤ 1000) (kd : Int) (who : List UInt8) (hl : who.length ≤ 12) (hok : aclB (mkR kd who 0) [] = true) (hw : Words W) (hT : Tab.Tabs W) (h0 : checkE (joins n ++ pubs j) true ⟨kd, 0, who, 0⟩ = 0) (hnx : joins n ++ pubs j ++ [⟨kd, 0, who, 0⟩] = joins n2 ++ pubs j2) :
    Calls Tryz.prog 7 #[.pointer (some ⟨w.heap.size, 0, none⟩), rv (mkR kd who 0)] W fun e w' => e = .returned (.int .i64 0) ∧ FSt w n2 j2 w' := by
  obtain ⟨m, v, h1, h2⟩ := h.lg
  have hm := full_len h1
  refine (h2.yes (Nat.lt_succ_self _) h.sz (by omega) (on_mk W kd who hl) hw hT (by rw [h1, hok]; exact h0)).mono ?_
  rintro e w' ⟨rfl, v', r', hks, hlo, hke, _⟩
  refine ⟨rfl, ⟨_, v', ?_, hlo⟩, ?_, Nat.le_trans h.sz hke.size⟩
  · rw [hks, h1]; exact hnx
  · exact h.bel.trans (hke.below (by have := h.sz; omega) (Nat.le_refl _) (fun q hq => by have := (h2.own.lt q hq).1; omega))
theorem FSt.not {w W : World} {n j : Nat} (h : FSt w n j W) (hn : n + j ≤ 1000) (kd : Int) (who : List UInt8) (hl : who.length ≤ 12) (hok : aclB (mkR kd who 0) [] = true) (h6 : checkE (joins n ++ pubs j) true ⟨kd, 0, who, 0⟩ = 6) :
    Calls Tryz.prog 7 #[.pointer (some ⟨w.heap.size, 0, none⟩), rv (mkR kd who 0)] W fun e w' => e = .returned (.int .i64 6) ∧ FSt w n j w' := by
  obtain ⟨m, v, h1, h2⟩ := h.lg
  have hm := full_len h1
  have h7 : checkE (ks m) (aclB (mkR kd who 0) []) (mkR kd who 0).k = 6 := by rw [h1, hok]; exact h6
  refine (h2.no (by omega) (on_mk W kd who hl) (by rw [h7]; decide)).mono ?_
  rintro e w' ⟨rfl, hb⟩
  exact ⟨by rw [h7], h.below hb⟩
/-- a principal comes -/
theorem FSt.join {w W : World} {i : Nat} (h : FSt w i 0 W) (hi : i < 12) (hw : Words W) (hT : Tab.Tabs W) :
    Calls Tryz.prog 7 #[.pointer (some ⟨w.heap.size, 0, none⟩), rv (mkR 0 (nameP i) 0)] W fun e w' => e = .returned (.int .i64 0) ∧ FSt w (i + 1) 0 w' := by
  have hc := join_check i (by omega) i (by omega) (Nat.le_refl _)
  rw [if_neg (by omega)] at hc
  refine h.add (by omega) 0 (nameP i) (by simp [nameP]) (acl_join i (by omega)) hw hT ?_ ?_
  · show checkE (joins i ++ []) true _ = 0
    rw [List.append_nil]; exact hc
  · show joins i ++ [] ++ [_] = joins (i + 1) ++ []
    rw [List.append_nil, List.append_nil, joins_succ]
theorem FSt.join_no {w W : World} {i : Nat} (h : FSt w 12 0 W) (hi : i < 16) (h12 : 12 ≤ i) :
    Calls Tryz.prog 7 #[.pointer (some ⟨w.heap.size, 0, none⟩), rv (mkR 0 (nameP i) 0)] W fun e w' => e = .returned (.int .i64 6) ∧ FSt w 12 0 w' := by
  have hc := join_check 12 (by omega) i hi h12
  rw [if_pos rfl] at hc
  exact h.not (by omega) 0 (nameP i) (by simp [nameP]) (acl_join i hi) hc
/-- a rule comes -/
theorem FSt.pub {w W : World} {n j : Nat} (h : FSt w n j W) (h0 : 0 < n) (hn : n ≤ 12) (hj : n + j < 40) (hw : Words W) (hT : Tab.Tabs W) :
    Calls Tryz.prog 7 #[.pointer (some ⟨w.heap.size, 0, none⟩), rv (mkR 1 (nameP 0) 0)] W fun e w' => e = .returned (.int .i64 0) ∧ FSt w n (j + 1) w' := by
  have hc := pub_check n j h0 hn
  rw [if_neg (by omega)] at hc
  refine h.add (by omega) 1 (nameP 0) (by decide) acl_pub hw hT hc ?_
  rw [pubs_succ, List.append_assoc]
theorem FSt.pub_no {w W : World} {n j : Nat} (h : FSt w n j W) (h0 : 0 < n) (hn : n ≤ 12) (hj : n + j = 40) :
    Calls Tryz.prog 7 #[.pointer (some ⟨w.heap.size, 0, none⟩), rv (mkR 1 (nameP 0) 0)] W fun e w' => e = .returned (.int .i64 6) ∧ FSt w n j w' := by
  have hc := pub_check n j h0 hn
  rw [if_pos hj] at hc
  exact h.not (by omega) 1 (nameP 0) (by decide) acl_pub hc
theorem and_lowP (a : Int) (k m : Nat) (hm : m = 2 ^ k - 1) (hk : k < 60) : ∃ A : Nat, A < 2 ^ k ∧ bits .and .i64 a (m : Int) = (A : Int) := by
  have h60 : 2 ^ k ≤ 2 ^ 60 := Nat.pow_le_pow_right (by decide) (by omega)
  have hp : 0 < 2 ^ k := Nat.two_pow_pos k
  refine ⟨(BitVec.ofInt 64 a).toNat &&& m, ?_, ?_⟩
  · rw [hm]; exact Nat.lt_of_le_of_lt Nat.and_le_right (by omega)
  · have hle : (BitVec.ofInt 64 a).toNat &&& m ≤ m := Nat.and_le_right
    have e : (BitVec.ofInt 64 (m : Int)).toNat = m := by
      rw [BitVec.ofInt_natCast, BitVec.toNat_ofNat]; exact Nat.mod_eq_of_lt (by omega)
    show IntKind.i64.wrap ((BitVec.ofInt 64 a &&& BitVec.ofInt 64 (m : Int)).toNat : Int) = _
    rw [BitVec.toNat_and, e]
    generalize (BitVec.ofInt 64 a).toNat &&& m = z at *
    simp only [IntKind.wrap, IntKind.bits, IntKind.signed]; simp; omega
set_option maxRecDepth 20000 in
set_option maxHeartbeats 4000000 in
theorem full_any (a p : Int) (w : World) (hw : Words w) (hT : Tab.Tabs w) :
    Calls Tryz.prog 3 #[.int .i64 a, .int .i64 p] w fun e w' => e = .returned (.bool true) ∧ Below w.heap.size w w' := by
  have HW := Lib.hid hw; have HT := Lib.hid hT; clear hw hT
  obtain ⟨N, hN, hNa⟩ := and_lowP a 6 63 (by decide) (by decide)
  obtain ⟨P, hP, hPa⟩ := and_lowP p 4 15 (by decide) (by decide)
  have hN1 : bits .and .i64 a 63 = (N : Int) := hNa
  have hP1 : bits .and .i64 p 15 = (P : Int) := hPa
  have hN' : N < 64 := hN
  have hP' : P < 16 := hP
  clear hN hP hNa hPa
  go_enter Tryz.func3, Tryz.ntmps3
  go_wp2_with (first | (go_at_call 6; refine (fit12_any _ (HW.out.below (by repeat (first | assumption | (with_reducible exact Below.refl _ _) | exact balloc _ _ | exact balloc2 _ _ _ | refine btrans ?_ (by assumption) | refine btrans ?_ (balloc _ _)))) (HT.out.below (by repeat (first | assumption | (with_reducible exact Below.refl _ _) | exact balloc _ _ | exact balloc2 _ _ _ | refine btrans ?_ (by assumption) | refine btrans ?_ (balloc _ _))) (Nat.le_refl _))).mono ?_; rintro e w1 ⟨rfl, hb1⟩) | fail)
  clear hN1 hP1
  go_loopw [6, 19] (fun vj vi wr => ∃ i : Nat, i ≤ P + 1 ∧ vi = .int .i64 i ∧ vj = .int .i64 (min i 12 : Nat) ∧ FSt w1 (min i 12) 0 wr) (fun _ vi _ => P + 1 - (intOf vi).toNat)
  case atStart => exact ⟨0, Nat.zero_le _, rfl, rfl, ⟨⟨[], .slice none 0 0, rfl, World.cell?_alloc_at _ _ _ _ rfl, by simp, World.ownsRow_nil _ _ _ _⟩, balloc _ _, by simp⟩⟩
  case round =>
    obtain ⟨i, hi, rfl, rfl, hst⟩ := hrel
    by_cases hlt : i < P + 1
    · have i1 : (i : Int) < (P : Int) + 1 := by omega
      have i0 : (0 : Int) ≤ (i : Int) := by omega
      obtain ⟨c, hc⟩ : ∃ c : UInt8, c = UInt8.ofNat (97 + i) := ⟨_, rfl⟩
      have hci : (97 + (i : Int)) = (c.toNat : Int) := by
        rw [hc, UInt8.toNat_ofNat', Nat.mod_eq_of_lt (by omega)]; push_cast; rfl
      have hcv : ∀ W : World, (convert 28 9 (.slice (some ⟨W.heap.size, 0, none⟩) 1 1)).run Tryz.prog (W.alloc (.cells #[.int .u8 (97 + (i : Int))] 5)) = .ok (.string ⟨#[c]⟩) (W.alloc (.cells #[.int .u8 (97 + (i : Int))] 5)) := fun W => by
        rw [hci]
        exact run_convert_bytes_back _ 28 9 5 ⟨W.heap.size, 0, none⟩ 1 [c] Tryz.underlying28 Tryz.underlying5 Tryz.underlying9 (fun j hj => by
          have : j = 0 := by simpa using hj
          subst this
          exact World.cell?_alloc_at _ _ _ _ rfl)
      have r1 : ∀ w, (Op.stringOp .add ⟨#[112]⟩ ⟨#[c]⟩).run Tryz.prog w = .ok (.string ⟨#[112, c]⟩) w := fun w => run_string_add_lists w [112] [c] (by simp) (by simp)
      have hnm : nameP i = [112, c] := by rw [hc]; rfl
      by_cases h12 : i < 12
      · have i12 : (i : Int) < 12 := by omega
        have hadd (W : World) (h : Below wr.heap.size wr W) := (show FSt w1 i 0 W from by have := hst.below h; rwa [Nat.min_eq_left (by omega)] at this).join h12 (HW.out.below (btrans hb1 (hst.below h).bel)) (HT.out.below (btrans hb1 (hst.below h).bel) (Nat.le_refl _))
        rw [hnm] at hadd
        have hm1 : min i 12 = i := Nat.min_eq_left (by omega)
        have hm2 : min (i + 1) 12 = i + 1 := Nat.min_eq_left (by omega)
        rw [hm1]
        have HADD := Lib.hid hadd; have HM2 := Lib.hid hm2; clear hadd hm1 hm2 hst hnm hc hci
        go_wp2_with (first | (go_at_call 7; refine (HADD.out _ (by repeat (first | assumption | (with_reducible exact Below.refl _ _) | exact balloc _ _ | exact balloc2 _ _ _ | refine btrans ?_ (by assumption) | refine btrans ?_ (balloc _ _)))).mono ?_; rintro e w5 ⟨rfl, hst5⟩) | fail)
        exact ⟨⟨i + 1, by omega, by go_num, by rw [HM2.out]; go_num, by rw [HM2.out]; exact hst5⟩, by simp [intOf]; go_num⟩
      · have i12 : ¬ (i : Int) < 12 := by omega
        have hadd (W : World) (h : Below wr.heap.size wr W) := (show FSt w1 12 0 W from by have := hst.below h; rwa [Nat.min_eq_right (by omega)] at this).join_no (i := i) (by omega) (by omega)
        rw [hnm] at hadd
        have hm1 : min i 12 = 12 := Nat.min_eq_right (by omega)
        have hm2 : min (i + 1) 12 = 12 := Nat.min_eq_right (by omega)
        rw [hm1]
        have HADD := Lib.hid hadd; have HM2 := Lib.hid hm2; clear hadd hm1 hm2 hst hnm hc hci
        go_wp2_with (first | (go_at_call 7; refine (HADD.out _ (by repeat (first | assumption | (with_reducible exact Below.refl _ _) | exact balloc _ _ | exact balloc2 _ _ _ | refine btrans ?_ (by assumption) | refine btrans ?_ (balloc _ _)))).mono ?_; rintro e w5 ⟨rfl, hst5⟩) | fail)
        exact ⟨⟨i + 1, by omega, by go_num, by rw [HM2.out]; first | rfl | go_num, by rw [HM2.out]; exact hst5⟩, by simp [intOf]; go_num⟩
    · have i1 : ¬ (i : Int) < (P : Int) + 1 := by omega
      obtain rfl : i = P + 1 := by omega
      obtain ⟨n, hn⟩ : ∃ n, n = min (P + 1) 12 := ⟨_, rfl⟩
      rw [← hn] at hst ⊢
      have hn0 : 0 < n := by omega
      have hn12 : n ≤ 12 := by omega
      have HST := Lib.hid hst; clear hst hn
      go_wp2_with fail
      generalize wr = WE at *
      go_loopw [49] (fun vi wr => ∃ j : Nat, j ≤ N ∧ vi = .int .i64 j ∧ FSt w1 n (min j (40 - n)) wr) (fun vi _ => N - (intOf vi).toNat)
      case atStart => exact ⟨0, Nat.zero_le _, rfl, by rw [Nat.zero_min]; exact HST.out⟩
      case round =>
        obtain ⟨j, hj, rfl, hst⟩ := hrel
        have hpa : nameP 0 = [112, 97] := rfl
        by_cases hlt2 : j < N
        · have i2 : (j : Int) < (N : Int) := by omega
          have i3 : (0 : Int) ≤ (j : Int) := by omega
          by_cases h40 : n + j < 40
          · have i40 : (n : Int) + (j : Int) < 40 := by omega
            have hadd (W : World) (h : Below wr.heap.size wr W) := (show FSt w1 n j W from by have := hst.below h; rwa [Nat.min_eq_left (by omega)] at this).pub hn0 hn12 h40 (HW.out.below (btrans hb1 (hst.below h).bel)) (HT.out.below (btrans hb1 (hst.below h).bel) (Nat.le_refl _))
            rw [hpa] at hadd
            have hm2 : min (j + 1) (40 - n) = j + 1 := Nat.min_eq_left (by omega)
            have HADD := Lib.hid hadd; have HM2 := Lib.hid hm2; clear hadd hm2 hst hpa
            go_wp2_with (first | (go_at_call 7; refine (HADD.out _ (by repeat (first | assumption | (with_reducible exact Below.refl _ _) | exact balloc _ _ | exact balloc2 _ _ _ | refine btrans ?_ (by assumption) | refine btrans ?_ (balloc _ _)))).mono ?_; rintro e w5 ⟨rfl, hst5⟩) | fail)
            exact ⟨⟨j + 1, by omega, by go_num, by rw [HM2.out]; exact hst5⟩, by simp [intOf]; go_num⟩
          · have i40 : ¬ (n : Int) + (j : Int) < 40 := by omega
            have hadd (W : World) (h : Below wr.heap.size wr W) := (show FSt w1 n (40 - n) W from by have := hst.below h; rwa [Nat.min_eq_right (by omega)] at this).pub_no hn0 hn12 (by omega)
            rw [hpa] at hadd
            have hm2 : min (j + 1) (40 - n) = 40 - n := Nat.min_eq_right (by omega)
            have HADD := Lib.hid hadd; have HM2 := Lib.hid hm2; clear hadd hm2 hst hpa
            go_wp2_with (first | (go_at_call 7; refine (HADD.out _ (by repeat (first | assumption | (with_reducible exact Below.refl _ _) | exact balloc _ _ | exact balloc2 _ _ _ | refine btrans ?_ (by assumption) | refine btrans ?_ (balloc _ _)))).mono ?_; rintro e w5 ⟨rfl, hst5⟩) | fail)
            exact ⟨⟨j + 1, by omega, by go_num, by rw [HM2.out]; exact hst5⟩, by simp [intOf]; go_num⟩
        · have i2 : ¬ (j : Int) < (N : Int) := by omega
          obtain rfl : j = N := by omega
          obtain ⟨m, v, h1, h2⟩ := hst.lg
          have hm := full_len h1
          obtain ⟨a1, cap1, rfl, hlog, hcap⟩ := h2.log
          have hln := fun W h => len_any w1.heap.size a1 cap1 m W (hlog.below h)
          have hmm : ((m.length : Int) == min ((n : Int) + (j : Int)) 40) = true := by rw [beq_iff_eq, hm]; omega
          have HLN := Lib.hid hln; have HB := Lib.hid hst.bel
          clear hln hst h1 h2 hlog hm
          go_wp2_with (first | (go_at_call 8; refine (HLN.out _ (by repeat (first | assumption | (with_reducible exact Below.refl _ _) | exact balloc _ _ | exact balloc2 _ _ _ | refine btrans ?_ (by assumption) | refine btrans ?_ (balloc _ _)))).mono ?_; rintro e w5 ⟨rfl, hb5⟩) | fail)
          go_ret
          exact ⟨rfl, btrans (btrans hb1 HB.out) hb5⟩
end Go.Proofs.YtfkedobofamkiaaGreatDoor.Pol
end
