/- MERGED BY A PROGRAM OF MINE (mg.py) out of my own texts, in their order: RdB, Wr8, Wr9, RdM, PolRead, PolRight, RdT, RdK, RdC, RdU, RdR, RdL, RdS, RdA, RdW, WBack, Fit16. -/
import Derived.Test.YtpbdgbejcdncgaaMgWireAny2
import Derived.Defers
import Derived.Recover
import Derived.Deep.MidRow

section
/- PLAIN: what is read of bytes are that thing's bytes: values, conditions, filters, attributes, events, rules. No program in sight. -/
namespace Go.Proofs.Ytpbdgbejcdncgaa.Wire
open Go.Proofs.Ytpbdgbejcdncgaa.Val
theorem key_of_back {x : Nat} (h : (Ord.back x).2 = true) : Ord.key (Ord.back x).1 = x := by
  unfold Ord.back at h ⊢
  by_cases hm : x = Ord.most
  · rw [if_pos hm, hm]; decide
  · rw [if_neg hm] at h ⊢
    by_cases h2 : (Flt.nan (Ord.backB x) || Ord.key (Ord.backB x) != x) = true
    · rw [if_pos h2] at h; cases h
    · rw [if_neg h2]
      simp only [Bool.or_eq_true, not_or, bne_iff_ne, ne_eq, Decidable.not_not] at h2
      exact h2.2
theorem byteOf_zero {c : UInt8} {k : Int} (h : (c.toNat : Int) = k) : byteOf k = c := by rw [← h, byteOf_nat]
theorem decVal_enc {s r : List UInt8} {v : V} (h : decVal s = some (v, r)) : s = encVal v.kind v.int v.num v.text v.yes ++ r := by
  cases s with
  | nil => cases h
  | cons c t =>
    rw [decVal_cons] at h
    split at h
    · rename_i hc
      cases h1 : decLong t with
      | none => rw [h1] at h; cases h
      | some p =>
        obtain ⟨x, r2⟩ := p
        rw [h1] at h
        injection h with h; injection h with h2 h3; subst h2; subst h3; subst hc
        obtain ⟨e, hx⟩ := decLong_enc h1
        show (0 : UInt8) :: t = byteOf 0 :: (encLong (u64of (i64of x)) ++ r2)
        rw [u64_i64 hx, ← e]; rfl
    · split at h
      · rename_i hc
        cases h1 : decLong t with
        | none => rw [h1] at h; cases h
        | some p =>
          obtain ⟨x, r2⟩ := p
          rw [h1] at h
          dsimp only at h
          by_cases hb : (Ord.back x).2 = true
          · rw [if_pos hb] at h
            injection h with h; injection h with h2 h3; subst h2; subst h3; subst hc
            obtain ⟨e, hx⟩ := decLong_enc h1
            show (1 : UInt8) :: t = byteOf 1 :: (encLong (Ord.key (Ord.back x).1) ++ r2)
            rw [key_of_back hb, ← e]; rfl
          · rw [if_neg hb] at h; cases h
      · split at h
        · rename_i hc
          cases h1 : decText t with
          | none => rw [h1] at h; cases h
          | some p =>
            obtain ⟨u, r2⟩ := p
            rw [h1] at h
            dsimp only at h
            split at h
            · injection h with h; injection h with h2 h3; subst h2; subst h3; subst hc
              obtain ⟨e, hx⟩ := decText_enc h1
              show (2 : UInt8) :: t = byteOf 2 :: (encText u ++ r2)
              rw [← e]; rfl
            · cases h
        · split at h
          · rename_i hc
            cases t with
            | nil => cases h
            | cons d r2 =>
              dsimp only at h
              split at h
              · rename_i hd
                injection h with h; injection h with h2 h3; subst h2; subst h3; subst hc
                show (3 : UInt8) :: d :: r2 = byteOf 3 :: ((if (d == 1) = true then 1 else 0) :: r2)
                have h01 : d = 0 ∨ d = 1 := by
                  have : d.toNat = 0 ∨ d.toNat = 1 := by omega
                  rcases this with h | h
                  · exact .inl (UInt8.toNat_inj.1 h)
                  · exact .inr (UInt8.toNat_inj.1 h)
                rcases h01 with rfl | rfl <;> rfl
              · cases h
          · cases h
theorem decByte_enc {s t : List UInt8} {c : UInt8} (h : decByte s = some (c, t)) : s = byteOf (c.toNat : Int) :: t := by
  cases s with
  | nil => cases h
  | cons a b =>
    have h' : some (a, b) = some (c, t) := h
    injection h' with h; injection h with h1 h2; subst h1; subst h2
    rw [byteOf_nat]
theorem decCond_enc (s : List UInt8) (c : C) (r : List UInt8) (h : decCond s = some (c, r)) : s = encCond c ++ r := by
  unfold decCond at h
  cases h1 : decText s with
  | none => rw [h1] at h; cases h
  | some p =>
    obtain ⟨nm, t⟩ := p
    rw [h1] at h; dsimp only at h
    cases h2 : decByte t with
    | none => rw [h2] at h; cases h
    | some q =>
      obtain ⟨d, t2⟩ := q
      rw [h2] at h; dsimp only at h
      cases h3 : decVal t2 with
      | none => rw [h3] at h; cases h
      | some q2 =>
        obtain ⟨v, r2⟩ := q2
        rw [h3] at h
        injection h with h; injection h with h4 h5; subst h4; subst h5
        rw [(decText_enc h1).1, decByte_enc h2, decVal_enc h3]
        simp [encCond]
theorem decAttr_enc (s : List UInt8) (a : A) (r : List UInt8) (h : decAttr s = some (a, r)) : s = encAttr a ++ r := by
  unfold decAttr at h
  cases h1 : decText s with
  | none => rw [h1] at h; cases h
  | some p =>
    obtain ⟨nm, t⟩ := p
    rw [h1] at h; dsimp only at h
    cases h3 : decVal t with
    | none => rw [h3] at h; cases h
    | some q2 =>
      obtain ⟨v, r2⟩ := q2
      rw [h3] at h
      injection h with h; injection h with h4 h5; subst h4; subst h5
      rw [(decText_enc h1).1, decVal_enc h3]
      simp [encAttr]
theorem decFilter_enc {s sf r : List UInt8} {l : List C} (h : decFilter s = some ((sf, l), r)) : s = encFilter sf l ++ r ∧ sf.length < 256 := by
  unfold decFilter at h
  cases h1 : decText s with
  | none => rw [h1] at h; cases h
  | some p =>
    obtain ⟨nm, t⟩ := p
    rw [h1] at h; dsimp only at h
    cases h2 : decByte t with
    | none => rw [h2] at h; cases h
    | some q =>
      obtain ⟨d, t2⟩ := q
      rw [h2] at h; dsimp only at h
      cases h3 : decMany decCond d.toNat t2 with
      | none => rw [h3] at h; cases h
      | some q2 =>
        obtain ⟨l2, r2⟩ := q2
        rw [h3] at h
        injection h with h; injection h with h4 h5; injection h4 with h6 h7; subst h5; subst h6; subst h7
        obtain ⟨e, hn⟩ := decMany_enc (g := encCond) decCond_enc _ _ _ _ h3
        refine ⟨?_, (decText_enc h1).2⟩
        rw [(decText_enc h1).1, decByte_enc h2, e, ← hn]
        simp [encFilter, encConds]
theorem decEvent_enc {s sf r : List UInt8} {l : List A} (h : decEvent s = some ((sf, l), r)) : s = encEvent sf l ++ r ∧ sf.length < 256 ∧ rightL l = true := by
  unfold decEvent at h
  cases h1 : decText s with
  | none => rw [h1] at h; cases h
  | some p =>
    obtain ⟨nm, t⟩ := p
    rw [h1] at h; dsimp only at h
    cases h2 : decByte t with
    | none => rw [h2] at h; cases h
    | some q =>
      obtain ⟨d, t2⟩ := q
      rw [h2] at h; dsimp only at h
      cases h3 : decMany decAttr d.toNat t2 with
      | none => rw [h3] at h; cases h
      | some q2 =>
        obtain ⟨l2, r2⟩ := q2
        rw [h3] at h; dsimp only at h
        by_cases hr : rightL l2 = true
        · rw [if_pos hr] at h
          injection h with h; injection h with h4 h5; injection h4 with h6 h7; subst h5; subst h6; subst h7
          obtain ⟨e, hn⟩ := decMany_enc (g := encAttr) decAttr_enc _ _ _ _ h3
          refine ⟨?_, (decText_enc h1).2, hr⟩
          rw [(decText_enc h1).1, decByte_enc h2, e, ← hn]
          simp [encEvent, encAttrs]
        · rw [if_neg hr] at h; cases h
theorem decCond_small {s r : List UInt8} {a : C} (h : decCond s = some (a, r)) : a.name.length < 256 ∧ a.val.text.length ≤ 40 ∧ a.val.num < 18446744073709551616 := by
  unfold decCond at h
  cases h1 : decText s with
  | none => rw [h1] at h; cases h
  | some p =>
    obtain ⟨nm, t⟩ := p
    rw [h1] at h
    dsimp only at h
    cases h4 : decByte t with
    | none => rw [h4] at h; cases h
    | some q0 =>
      obtain ⟨d, t2⟩ := q0
      rw [h4] at h; dsimp only at h
      cases h2 : decVal t2 with
      | none => rw [h2] at h; cases h
      | some q =>
        obtain ⟨v, r2⟩ := q
        rw [h2] at h
        injection h with h; injection h with h3 h4; subst h3
        exact ⟨(decText_enc h1).2, decVal_small h2⟩
theorem conds_small {s sf r : List UInt8} {l : List C} (h : decFilter s = some ((sf, l), r)) : (∀ x ∈ l, x.name.length ≤ 140737488351232 ∧ x.val.text.length ≤ 140737488351232) ∧ (∀ x ∈ l, x.val.num < 18446744073709551616) ∧ l.length < 256 := by
  unfold decFilter at h
  cases h1 : decText s with
  | none => rw [h1] at h; cases h
  | some p =>
    obtain ⟨nm, t⟩ := p
    rw [h1] at h; dsimp only at h
    cases h2 : decByte t with
    | none => rw [h2] at h; cases h
    | some q =>
      obtain ⟨d, t2⟩ := q
      rw [h2] at h; dsimp only at h
      cases h3 : decMany decCond d.toNat t2 with
      | none => rw [h3] at h; cases h
      | some q2 =>
        obtain ⟨l2, r2⟩ := q2
        rw [h3] at h
        injection h with h; injection h with h4 h5; injection h4 with h6 h7; subst h7
        have hall := decMany_all (Q := fun a : C => a.name.length < 256 ∧ a.val.text.length ≤ 40 ∧ a.val.num < 18446744073709551616) (fun s a t h => decCond_small h) _ _ _ _ h3
        exact ⟨fun x hx => by have := hall x hx; omega, fun x hx => (hall x hx).2.2, by have := (decMany_enc (g := encCond) decCond_enc _ _ _ _ h3).2; have := d.toNat_lt; omega⟩
theorem attrs_num {s sf r : List UInt8} {l : List A} (h : decEvent s = some ((sf, l), r)) : (∀ x ∈ l, x.val.num < 18446744073709551616) ∧ l.length < 256 := by
  unfold decEvent at h
  cases h1 : decText s with
  | none => rw [h1] at h; cases h
  | some p =>
    obtain ⟨nm, t⟩ := p
    rw [h1] at h; dsimp only at h
    cases h2 : decByte t with
    | none => rw [h2] at h; cases h
    | some q =>
      obtain ⟨d, t2⟩ := q
      rw [h2] at h; dsimp only at h
      cases h3 : decMany decAttr d.toNat t2 with
      | none => rw [h3] at h; cases h
      | some q2 =>
        obtain ⟨l2, r2⟩ := q2
        rw [h3] at h; dsimp only at h
        by_cases hr : rightL l2 = true
        · rw [if_pos hr] at h
          injection h with h; injection h with h4 h5; injection h4 with h6 h7; subst h7
          have hall := decMany_all (Q := fun a : A => a.name.length < 256 ∧ a.val.text.length ≤ 40 ∧ a.val.num < 18446744073709551616) (fun s a t h => decAttr_small h) _ _ _ _ h3
          exact ⟨fun x hx => (hall x hx).2.2, by have := (decMany_enc (g := encAttr) decAttr_enc _ _ _ _ h3).2; have := d.toNat_lt; omega⟩
        · rw [if_neg hr] at h; cases h
/-- a rule, as bytes tell it: what plays no part in memory -/
structure DR where
  kd : UInt8
  tn : UInt8
  who : List UInt8
  br : UInt8
  sf : List UInt8
  l : List C
  nm : List UInt8
  pl : UInt8
def decRule (s : List UInt8) : Option (DR × List UInt8) :=
  match decByte s with
  | none => none
  | some (kd, s1) => match decByte s1 with
    | none => none
    | some (tn, s2) => match decText s2 with
      | none => none
      | some (who, s3) => match decByte s3 with
        | none => none
        | some (br, s4) => match decFilter s4 with
          | none => none
          | some ((sf, l), s5) => match decText s5 with
            | none => none
            | some (nm, s6) => match decByte s6 with
              | none => none
              | some (pl, s7) => some (⟨kd, tn, who, br, sf, l, nm, pl⟩, s7)
/-- the rule in memory, its conditions at a place -/
def DR.r (d : DR) (c0 : Option Addr) (cap : Nat) : Pol.R := ⟨⟨d.kd.toNat, d.tn.toNat, d.who, d.pl.toNat⟩, d.br.toNat, d.sf, c0, d.l.length, cap, d.nm⟩
theorem decRule_some {s s1 s2 s3 s4 s5 s6 s7 who sf nm : List UInt8} {kd tn br pl : UInt8} {l : List C} (h1 : decByte s = some (kd, s1)) (h2 : decByte s1 = some (tn, s2)) (h3 : decText s2 = some (who, s3)) (h4 : decByte s3 = some (br, s4)) (h5 : decFilter s4 = some ((sf, l), s5)) (h6 : decText s5 = some (nm, s6)) (h7 : decByte s6 = some (pl, s7)) :
    decRule s = some (⟨kd, tn, who, br, sf, l, nm, pl⟩, s7) ∧ (∀ c0 cap, s = encRule (DR.r ⟨kd, tn, who, br, sf, l, nm, pl⟩ c0 cap) l ++ s7) ∧ who.length < 256 ∧ nm.length < 256 ∧ sf.length < 256 := by
  refine ⟨?_, fun c0 cap => ?_, (decText_enc h3).2, (decText_enc h6).2, (decFilter_enc h5).2⟩
  · unfold decRule
    rw [h1]; dsimp only; rw [h2]; dsimp only; rw [h3]; dsimp only; rw [h4]; dsimp only; rw [h5]; dsimp only; rw [h6]; dsimp only; rw [h7]
  · rw [decByte_enc h1, decByte_enc h2, (decText_enc h3).1, decByte_enc h4, (decFilter_enc h5).1, (decText_enc h6).1, decByte_enc h7]
    simp [encRule, DR.r]
end Go.Proofs.Ytpbdgbejcdncgaa.Wire
end

section
/- A WRITER OF BYTES: the bytes of rules, events, messages. -/
namespace Go.Proofs.Ytpbdgbejcdncgaa.Wire
open Go.RowKit Flt Go.Proofs.Ytpbdgbejcdncgaa.Val Go.Lib
attribute [local go_sem] run_store_flt
/-- what a function that lays bytes answers -/
def Lays (w : World) (s : List UInt8) (e : Ending) (w' : World) : Prop := (∃ a0 cap, e = .returned (.slice a0 s.length cap) ∧ s.length ≤ cap ∧ cap ≤ maxLen ∧ BytesAt w' a0 s) ∧ Below w.heap.size w w'
theorem wr_new2 (w : World) (o : Obj) (T : TypeId) : Wr ((w.alloc o).alloc (.cells #[.slice none 0 0] T)) (w.heap.size + 1) [] := by
  have := wr_new (w.alloc o) (T := T)
  rwa [show (w.alloc o).heap.size = w.heap.size + 1 from by simp] at this
set_option maxRecDepth 20000 in
set_option maxHeartbeats 8000000 in
theorem eventb_any (sc : List UInt8) (a0 : Option Addr) (cap : Nat) (l : List A) (w : World) (hcl : Attrs w a0 l) (hnum : ∀ c ∈ l, c.val.num < 18446744073709551616) (hl : (encEvent sc l).length ≤ 1000000) (hlm : l.length ≤ 1000000) :
    Calls Try.prog 16 #[ev sc a0 l.length cap] w fun e w' => Lays w (encEvent sc l) e w' := by
  have HCL := Lib.hid hcl; have HNUM := Lib.hid hnum
  clear hcl hnum
  go_enter Try.func16, Try.ntmps16
  go_upto_region 2 with fail
  have HWR := Lib.hid (wr_new2 w (.cells #[.string ⟨sc.toArray⟩, .slice a0 l.length cap] 31) 45)
  have hbl := balloc2 w (.cells #[.string ⟨sc.toArray⟩, .slice a0 l.length cap] 31) (.cells #[.slice none 0 0] 45)
  have hx0 : ((w.alloc (.cells #[.string ⟨sc.toArray⟩, .slice a0 l.length cap] 31)).alloc (.cells #[.slice none 0 0] 45)).cell? ⟨w.heap.size, 0, none⟩ = some (.string ⟨sc.toArray⟩) := by simp
  have hx1 : ((w.alloc (.cells #[.string ⟨sc.toArray⟩, .slice a0 l.length cap] 31)).alloc (.cells #[.slice none 0 0] 45)).cell? ⟨w.heap.size, 1, none⟩ = some (.slice a0 l.length cap) := by simp
  generalize World.alloc (World.alloc w _) _ = W2 at *
  obtain ⟨b, hb⟩ : ∃ b, w.heap.size + 1 = b := ⟨_, rfl⟩
  have hle : w.heap.size ≤ b := by omega
  rw [hb] at HWR ⊢
  have HBL := Lib.hid hbl; clear hbl hb
  go_wp2_with (first | (go_at_call 33; refine (wevent_any b _ sc a0 cap l _ w HWR.out HCL.out HBL.out hle HNUM.out (by simp only [List.length_nil, Nat.zero_add]; omega) hlm).mono ?_; rintro e w5 ⟨rfl, hw5, ht5⟩; have HB5 := Lib.hid (HBL.out.trans (ht5.below HWR.out hle)); replace HWR := Lib.hid hw5; clear hw5 ht5) | (go_at_call 15; refine (wbytes_any b _ _ HWR.out (by simp only [List.nil_append]; omega)).mono ?_; rintro e w9 ⟨⟨a9, c9, rfl, h91, h92, h93⟩, hb9⟩) | fail)
  go_ret
  exact ⟨⟨a9, c9, rfl, h91, h92, h93⟩, btrans HB5.out hb9⟩
set_option maxRecDepth 20000 in
set_option maxHeartbeats 8000000 in
theorem ruleb_any (r : Pol.R) (cs : List C) (w : World) (hcl : Conds w r.c0 cs) (hcn : r.cn = cs.length) (hnum : ∀ c ∈ cs, c.val.num < 18446744073709551616) (hl : (encRule r cs).length ≤ 1000000) (hlm : cs.length ≤ 1000000) :
    Calls Try.prog 9 #[Pol.rv r] w fun e w' => Lays w (encRule r cs) e w' := by
  obtain ⟨⟨kd, tn, who, pl⟩, br, sc, c0, cn, cc, nm⟩ := r
  dsimp only at *
  subst hcn
  have hput := fun (b : Nat) (W : World) (hw : Wr W b []) (hb0 : Below w.heap.size w W) (hle : w.heap.size ≤ b) => wrule_any b [] ⟨⟨kd, tn, who, pl⟩, br, sc, c0, cs.length, cc, nm⟩ cs W w hw hcl rfl hb0 hle hnum (by simpa using hl) hlm
  have HPUT := Lib.hid hput
  clear hcl hnum hput
  go_enter Try.func9, Try.ntmps9
  go_upto_region 2 with fail
  have HWR := Lib.hid (wr_new2 w (.cells #[.int .i64 kd, .int .i64 tn, .string ⟨who.toArray⟩, .int .i64 br, .string ⟨sc.toArray⟩, .slice c0 cs.length cc, .string ⟨nm.toArray⟩, .int .i64 pl] 28) 45)
  have hbl := balloc2 w (.cells #[.int .i64 kd, .int .i64 tn, .string ⟨who.toArray⟩, .int .i64 br, .string ⟨sc.toArray⟩, .slice c0 cs.length cc, .string ⟨nm.toArray⟩, .int .i64 pl] 28) (.cells #[.slice none 0 0] 45)
  have hx : ∀ o, ((w.alloc (.cells #[.int .i64 kd, .int .i64 tn, .string ⟨who.toArray⟩, .int .i64 br, .string ⟨sc.toArray⟩, .slice c0 cs.length cc, .string ⟨nm.toArray⟩, .int .i64 pl] 28)).alloc (.cells #[.slice none 0 0] 45)).cell? ⟨w.heap.size, o, none⟩ = #[.int .i64 kd, .int .i64 tn, .string ⟨who.toArray⟩, .int .i64 br, .string ⟨sc.toArray⟩, .slice c0 cs.length cc, .string ⟨nm.toArray⟩, .int .i64 pl][o]? := fun o => by
    rw [World.cell?_alloc_lt _ _ _ (by simp)]; exact World.cell?_alloc_at _ _ _ _ rfl
  generalize World.alloc (World.alloc w _) _ = W2 at *
  obtain ⟨b, hb⟩ : ∃ b, w.heap.size + 1 = b := ⟨_, rfl⟩
  have hle : w.heap.size ≤ b := by omega
  rw [hb] at HWR ⊢
  have x0 := hx 0; have x1 := hx 1; have x2 := hx 2; have x3 := hx 3; have x4 := hx 4; have x5 := hx 5; have x6 := hx 6; have x7 := hx 7
  have HBL := Lib.hid hbl; clear hbl hb hx
  go_wp2_with (first | (go_at_call 30; refine (HPUT.out b _ HWR.out HBL.out hle).mono ?_; rintro e w5 ⟨rfl, hw5, ht5⟩; have HB5 := Lib.hid (HBL.out.trans (ht5.below HWR.out hle)); replace HWR := Lib.hid hw5; clear hw5 ht5) | (go_at_call 15; refine (wbytes_any b _ _ HWR.out (by simp only [List.nil_append]; omega)).mono ?_; rintro e w9 ⟨⟨a9, c9, rfl, h91, h92, h93⟩, hb9⟩) | fail)
  go_ret
  exact ⟨⟨a9, c9, rfl, h91, h92, h93⟩, btrans HB5.out hb9⟩
end Go.Proofs.Ytpbdgbejcdncgaa.Wire
end

section
/- A WRITER OF BYTES: messages. -/
namespace Go.Proofs.Ytpbdgbejcdncgaa.Wire
open Go.RowKit Flt Go.Proofs.Ytpbdgbejcdncgaa.Val Go.Lib
attribute [local go_sem] run_store_flt
/-- a message -/
structure M where
  kind : Int
  at_ : Int
  r : Pol.R
  fs : List UInt8
  f0 : Option Addr
  fn : Nat
  fc : Nat
  es : List UInt8
  e0 : Option Addr
  en : Nat
  ec : Nat
  ver : Int
  org : List UInt8
  ser : Int
abbrev msgL (kd mat rk rt : Int) (rw_ : List UInt8) (rb : Int) (rs : List UInt8) (r0 : Option Addr) (rn rc : Nat) (rnm : List UInt8) (rp : Int) (fs : List UInt8) (f0 : Option Addr) (fn fc : Nat) (es : List UInt8) (e0 : Option Addr) (en ec : Nat) (ver : Int) (org : List UInt8) (ser : Int) : Array Value :=
  #[.int .i64 kd, .int .i64 mat, .int .i64 rk, .int .i64 rt, .string ⟨rw_.toArray⟩, .int .i64 rb, .string ⟨rs.toArray⟩, .slice r0 rn rc, .string ⟨rnm.toArray⟩, .int .i64 rp, .string ⟨fs.toArray⟩, .slice f0 fn fc, .string ⟨es.toArray⟩, .slice e0 en ec, .int .i64 ver, .string ⟨org.toArray⟩, .int .i64 ser]
abbrev mv (m : M) : Value := .agg (msgL m.kind m.at_ m.r.k.kind m.r.k.tenant m.r.k.who m.r.br m.r.sc m.r.c0 m.r.cn m.r.cc m.r.nm m.r.k.pl m.fs m.f0 m.fn m.fc m.es m.e0 m.en m.ec m.ver m.org m.ser)
/-- what stands ahead of the kinds: the box, the writer -/
theorem msg_head {W2 w : World} {T T2 : TypeId} {cs : Array Value} (h : W2 = (w.alloc (.cells cs T)).alloc (.cells #[.slice none 0 0] T2)) :
    Wr W2 (w.heap.size + 1) [] ∧ Below w.heap.size w W2 ∧ Free W2 (w.heap.size + 1) w.heap.size ∧ ∀ o, W2.cell? ⟨w.heap.size, o, none⟩ = cs[o]? := by
  subst h
  have hw := wr_new2 w (.cells cs T) T2
  refine ⟨hw, balloc2 _ _ _, hw.free (by omega), fun o => ?_⟩
  rw [World.cell?_alloc_lt _ _ _ (by simp)]
  exact World.cell?_alloc_at _ _ _ _ rfl
set_option maxRecDepth 20000 in
set_option maxHeartbeats 8000000 in
theorem msg_sub (m : M) (cs : List C) (w : World) (h0 : m.kind ≠ 0) (h3 : m.kind ≠ 3) (hcl : Conds w m.f0 cs) (hcn : m.fn = cs.length) (hnum : ∀ c ∈ cs, c.val.num < 18446744073709551616) (hl : 1 + (encFilter m.fs cs).length ≤ 1000000) (hlm : cs.length ≤ 1000000) :
    Calls Try.prog 8 #[mv m] w fun e w' => Lays w ([byteOf m.kind] ++ encFilter m.fs cs) e w' := by
  obtain ⟨kd, mat, ⟨⟨rk, rt, who, pl⟩, br, sc, c0, rn, cc, nm⟩, fs, f0, fn, fc, es, e0, en, ec, ver, org, ser⟩ := m
  dsimp only at *
  subst hcn
  have k0 : (kd == 0) = false := by simpa using h0
  have k3 : (kd == 3) = false := by simpa using h3
  have HCL := Lib.hid hcl; have HNUM := Lib.hid hnum
  clear hcl hnum h0 h3
  go_enter Try.func8, Try.ntmps8
  go_upto_region 2 with fail
  have hd := msg_head (w := w) (T := 33) (T2 := 45) (cs := #[.int .i64 kd, .int .i64 mat, .int .i64 rk, .int .i64 rt, .string ⟨who.toArray⟩, .int .i64 br, .string ⟨sc.toArray⟩, .slice c0 rn cc, .string ⟨nm.toArray⟩, .int .i64 pl, .string ⟨fs.toArray⟩, .slice f0 cs.length fc, .string ⟨es.toArray⟩, .slice e0 en ec, .int .i64 ver, .string ⟨org.toArray⟩, .int .i64 ser]) rfl
  generalize World.alloc (World.alloc w _) _ = W2 at *
  obtain ⟨hwr, hbl, hfr, hx⟩ := hd
  obtain ⟨b, hb⟩ : ∃ b, w.heap.size + 1 = b := ⟨_, rfl⟩
  have hle : w.heap.size ≤ b := by omega
  rw [hb] at hwr hfr ⊢
  have y0 := hx 0
  have HWR := Lib.hid hwr; have HFR := Lib.hid hfr; have HBL := Lib.hid hbl; have HB := Lib.hid (Wrote.refl b W2); have HW0 := Lib.hid hwr; have HX := Lib.hid hx
  clear hb hwr hfr hbl hx
  go_wp2_with (first | (go_at_call 29; (with_reducible refine (wbyte_one b [] kd W2 HWR.out (by decide)).mono ?_); rintro e w5 ⟨rfl, hw5, ht5⟩; have x0 := (ht5.cell HFR.out 0).trans (HX.out 0); have x10 := (ht5.cell HFR.out 10).trans (HX.out 10); have x11 := (ht5.cell HFR.out 11).trans (HX.out 11); replace HWR := Lib.hid hw5; replace HB := Lib.hid (HB.out.trans ht5); clear hw5 ht5) | (go_at_call 14; refine (wfilter_any b _ fs f0 fc cs _ w HWR.out HCL.out (HBL.out.trans (HB.out.below HW0.out hle)) hle HNUM.out (by simp only [List.nil_append, List.length_singleton]; omega) hlm).mono ?_; rintro e w6 ⟨rfl, hw5, ht5⟩; replace HWR := Lib.hid hw5; replace HB := Lib.hid (HB.out.trans ht5); clear hw5 ht5) | (go_at_call 15; refine (wbytes_any b _ _ HWR.out (by simp only [List.nil_append, List.length_append, List.length_singleton]; omega)).mono ?_; rintro e w9 ⟨⟨a9, c9, rfl, h91, h92, h93⟩, hb9⟩) | fail)
  go_ret
  exact ⟨⟨a9, c9, rfl, h91, h92, h93⟩, btrans (HBL.out.trans (HB.out.below HW0.out hle)) hb9⟩
set_option maxRecDepth 20000 in
set_option maxHeartbeats 8000000 in
theorem msg_policy (m : M) (cs : List C) (w : World) (h0 : m.kind = 0) (hcl : Conds w m.r.c0 cs) (hcn : m.r.cn = cs.length) (hnum : ∀ c ∈ cs, c.val.num < 18446744073709551616) (hl : 2 + (encRule m.r cs).length ≤ 1000000) (hlm : cs.length ≤ 1000000) :
    Calls Try.prog 8 #[mv m] w fun e w' => Lays w ([byteOf m.kind] ++ [byteOf m.at_] ++ encRule m.r cs) e w' := by
  obtain ⟨kd, mat, ⟨⟨rk, rt, who, pl⟩, br, sc, c0, rn, cc, nm⟩, fs, f0, fn, fc, es, e0, en, ec, ver, org, ser⟩ := m
  dsimp only at *
  subst hcn
  subst h0
  have hput := fun (b : Nat) (s : List UInt8) (W : World) (hs : s.length ≤ 2) (hw : Wr W b s) (hb0 : Below w.heap.size w W) (hle : w.heap.size ≤ b) => wrule_any b s ⟨⟨rk, rt, who, pl⟩, br, sc, c0, cs.length, cc, nm⟩ cs W w hw hcl rfl hb0 hle hnum (by omega) hlm
  have HPUT := Lib.hid hput
  clear hcl hnum hput
  go_enter Try.func8, Try.ntmps8
  go_upto_region 2 with fail
  have hd := msg_head (w := w) (T := 33) (T2 := 45) (cs := #[.int .i64 0, .int .i64 mat, .int .i64 rk, .int .i64 rt, .string ⟨who.toArray⟩, .int .i64 br, .string ⟨sc.toArray⟩, .slice c0 cs.length cc, .string ⟨nm.toArray⟩, .int .i64 pl, .string ⟨fs.toArray⟩, .slice f0 fn fc, .string ⟨es.toArray⟩, .slice e0 en ec, .int .i64 ver, .string ⟨org.toArray⟩, .int .i64 ser]) rfl
  generalize World.alloc (World.alloc w _) _ = W2 at *
  obtain ⟨hwr, hbl, hfr, hx⟩ := hd
  obtain ⟨b, hb⟩ : ∃ b, w.heap.size + 1 = b := ⟨_, rfl⟩
  have hle : w.heap.size ≤ b := by omega
  rw [hb] at hwr hfr ⊢
  have y0 := hx 0
  have HWR := Lib.hid hwr; have HFR := Lib.hid hfr; have HBL := Lib.hid hbl; have HB := Lib.hid (Wrote.refl b W2); have HW0 := Lib.hid hwr; have HX := Lib.hid hx
  clear hb hwr hfr hbl hx
  go_wp2_with (first | (go_at_call 29; (with_reducible refine (wbyte_one b [] 0 W2 HWR.out (by decide)).mono ?_); rintro e w5 ⟨rfl, hw5, ht5⟩; have x0 := (ht5.cell HFR.out 0).trans (HX.out 0); have x1 := (ht5.cell HFR.out 1).trans (HX.out 1); replace HWR := Lib.hid hw5; replace HB := Lib.hid (HB.out.trans ht5); have HF5 := Lib.hid (ht5.free _ HFR.out).1; clear hw5 ht5) | (go_at_call 29; (with_reducible refine (wbyte_one b _ mat w5 HWR.out (by simp)).mono ?_); rintro e w6 ⟨rfl, hw6, ht6⟩; replace HWR := Lib.hid hw6; replace HB := Lib.hid (HB.out.trans ht6); have z2 := (HB.out.cell HFR.out 2).trans (HX.out 2); have z3 := (HB.out.cell HFR.out 3).trans (HX.out 3); have z4 := (HB.out.cell HFR.out 4).trans (HX.out 4); have z5 := (HB.out.cell HFR.out 5).trans (HX.out 5); have z6 := (HB.out.cell HFR.out 6).trans (HX.out 6); have z7 := (HB.out.cell HFR.out 7).trans (HX.out 7); have z8 := (HB.out.cell HFR.out 8).trans (HX.out 8); have z9 := (HB.out.cell HFR.out 9).trans (HX.out 9); clear hw6 ht6) | (go_at_call 30; refine (HPUT.out b _ _ (by simp) HWR.out (HBL.out.trans (HB.out.below HW0.out hle)) hle).mono ?_; rintro e w7 ⟨rfl, hw5, ht5⟩; replace HWR := Lib.hid hw5; replace HB := Lib.hid (HB.out.trans ht5); clear hw5 ht5) | (go_at_call 15; refine (wbytes_any b _ _ HWR.out (by simp only [List.nil_append, List.length_append, List.length_singleton]; omega)).mono ?_; rintro e w9 ⟨⟨a9, c9, rfl, h91, h92, h93⟩, hb9⟩) | fail)
  go_ret
  exact ⟨⟨a9, c9, rfl, h91, h92, h93⟩, btrans (HBL.out.trans (HB.out.below HW0.out hle)) hb9⟩
set_option maxRecDepth 20000 in
set_option maxHeartbeats 8000000 in
theorem msg_event (m : M) (l : List A) (w : World) (h3 : m.kind = 3) (hcl : Attrs w m.e0 l) (hcn : m.en = l.length) (hnum : ∀ c ∈ l, c.val.num < 18446744073709551616) (hl : 18 + m.org.length + (encEvent m.es l).length ≤ 1000000) (hlm : l.length ≤ 1000000) :
    Calls Try.prog 8 #[mv m] w fun e w' => Lays w ([byteOf m.kind] ++ encText m.org ++ encLong (u64of m.ser) ++ encLong (u64of m.ver) ++ encEvent m.es l) e w' := by
  obtain ⟨kd, mat, ⟨⟨rk, rt, who, pl⟩, br, sc, c0, rn, cc, nm⟩, fs, f0, fn, fc, es, e0, en, ec, ver, org, ser⟩ := m
  dsimp only at *
  subst hcn
  subst h3
  have hu1 := u64of_val ver
  have hu2 := u64of_val ser
  have HU1 := Lib.hid hu1; have HU2 := Lib.hid hu2
  have HCL := Lib.hid hcl; have HNUM := Lib.hid hnum
  clear hcl hnum hu1 hu2
  go_enter Try.func8, Try.ntmps8
  go_upto_region 2 with fail
  have hd := msg_head (w := w) (T := 33) (T2 := 45) (cs := #[.int .i64 3, .int .i64 mat, .int .i64 rk, .int .i64 rt, .string ⟨who.toArray⟩, .int .i64 br, .string ⟨sc.toArray⟩, .slice c0 rn cc, .string ⟨nm.toArray⟩, .int .i64 pl, .string ⟨fs.toArray⟩, .slice f0 fn fc, .string ⟨es.toArray⟩, .slice e0 l.length ec, .int .i64 ver, .string ⟨org.toArray⟩, .int .i64 ser]) rfl
  generalize World.alloc (World.alloc w _) _ = W2 at *
  obtain ⟨hwr, hbl, hfr, hx⟩ := hd
  obtain ⟨b, hb⟩ : ∃ b, w.heap.size + 1 = b := ⟨_, rfl⟩
  have hle : w.heap.size ≤ b := by omega
  rw [hb] at hwr hfr ⊢
  have y0 := hx 0
  have HWR := Lib.hid hwr; have HFR := Lib.hid hfr; have HBL := Lib.hid hbl; have HB := Lib.hid (Wrote.refl b W2); have HW0 := Lib.hid hwr; have HX := Lib.hid hx
  clear hb hwr hfr hbl hx
  go_upto_region 9 with (go_at_call 29; (with_reducible refine (wbyte_one b [] 3 W2 HWR.out (by decide)).mono ?_); rintro e w5 ⟨rfl, hw5, ht5⟩; have x0 := (ht5.cell HFR.out 0).trans (HX.out 0); replace HWR := Lib.hid hw5; replace HB := Lib.hid (HB.out.trans ht5); have HF5 := Lib.hid (ht5.free _ HFR.out).1; clear hw5 ht5)
  have hsall : ∀ W, Wrote b w5 W → (fun w' => w'.cell? ⟨w.heap.size, 12, none⟩ = some (.string ⟨es.toArray⟩) ∧ w'.cell? ⟨w.heap.size, 13, none⟩ = some (.slice e0 l.length ec) ∧ w'.cell? ⟨w.heap.size, 14, none⟩ = some (.int .i64 ver) ∧ w'.cell? ⟨w.heap.size, 15, none⟩ = some (.string ⟨org.toArray⟩) ∧ w'.cell? ⟨w.heap.size, 16, none⟩ = some (.int .i64 ser)) W := fun W hb => ⟨((HB.out.trans hb).cell HFR.out 12).trans (HX.out 12), ((HB.out.trans hb).cell HFR.out 13).trans (HX.out 13), ((HB.out.trans hb).cell HFR.out 14).trans (HX.out 14), ((HB.out.trans hb).cell HFR.out 15).trans (HX.out 15), ((HB.out.trans hb).cell HFR.out 16).trans (HX.out 16)⟩
  have HSALL := Lib.hid hsall; have HB5 := Lib.hid HB.out
  clear hsall
  refine wp_region_held_drew (S := (fun w' => w'.cell? ⟨w.heap.size, 12, none⟩ = some (.string ⟨es.toArray⟩) ∧ w'.cell? ⟨w.heap.size, 13, none⟩ = some (.slice e0 l.length ec) ∧ w'.cell? ⟨w.heap.size, 14, none⟩ = some (.int .i64 ver) ∧ w'.cell? ⟨w.heap.size, 15, none⟩ = some (.string ⟨org.toArray⟩) ∧ w'.cell? ⟨w.heap.size, 16, none⟩ = some (.int .i64 ser))) (by kernel_rfl) ?_ (fun hq0 => ?_)
  · exact HSALL.out _ (wrote_drew b w5)
  have HBB : Hid (Wrote b w5 w5.drew) := Lib.hid (wrote_drew b w5)
  replace HWR := Lib.hid (wr_drew HWR.out)
  generalize w5.drew = D0 at *
  (refine wpAnyH_take (i := 0) (oi := ?_) (v := ?_) ?_ (by kernel_rfl) (by kernel_rfl) (by kernel_rfl) ?_ (Or.inl ⟨?_, ?_⟩) (by assumption) ?_; rotate_left 2; (· (simp only [List.getElem?_toArray, List.getElem?_cons_zero]; first | done | rfl)); (· exact (fun _ _ _ h => h)); (· rfl); (· (intro w hSw; (try dsimp only at hSw); go_simp; (try with_reducible rfl))))
  (try simp only [Act.put, List.setIfInBounds_toArray, List.set_cons_zero, List.set_cons_succ])
  (refine wpAnyH_take (i := 1) (oi := ?_) (v := ?_) ?_ (by kernel_rfl) (by kernel_rfl) (by kernel_rfl) ?_ (Or.inl ⟨?_, ?_⟩) (by assumption) ?_; rotate_left 2; (· (simp only [List.getElem?_toArray, List.getElem?_cons_succ, List.getElem?_cons_zero]; first | done | rfl)); (· exact (fun _ _ _ h => h)); (· rfl); (· (intro w hSw; (try dsimp only at hSw); go_simp; (try with_reducible rfl))))
  (try simp only [Act.put, List.setIfInBounds_toArray, List.set_cons_zero, List.set_cons_succ])
  (refine wpAnyH_take (i := 3) (oi := ?_) (v := ?_) ?_ (by kernel_rfl) (by kernel_rfl) (by kernel_rfl) ?_ (Or.inl ⟨?_, ?_⟩) (by assumption) ?_; rotate_left 2; (· (simp only [List.getElem?_toArray, List.getElem?_cons_succ, List.getElem?_cons_zero]; first | done | rfl)); (· exact (fun _ _ _ h => h)); (· rfl); (· (intro w hSw; (try dsimp only at hSw); go_simp; (try with_reducible rfl))))
  (try simp only [Act.put, List.setIfInBounds_toArray, List.set_cons_zero, List.set_cons_succ])
  (refine wpAnyH_take (i := 4) (oi := ?_) (v := ?_) ?_ (by kernel_rfl) (by kernel_rfl) (by kernel_rfl) ?_ (Or.inl ⟨?_, ?_⟩) (by assumption) ?_; rotate_left 2; (· (simp only [List.getElem?_toArray, List.getElem?_cons_succ, List.getElem?_cons_zero]; first | done | rfl)); (· exact (fun _ _ _ h => h)); (· rfl); (· (intro w hSw; (try dsimp only at hSw); go_simp; (try with_reducible rfl))))
  (try simp only [Act.put, List.setIfInBounds_toArray, List.set_cons_zero, List.set_cons_succ])
  (refine wpAnyH_take (i := 5) (oi := ?_) (v := ?_) ?_ (by kernel_rfl) (by kernel_rfl) (by kernel_rfl) ?_ (Or.inl ⟨?_, ?_⟩) (by assumption) ?_; rotate_left 2; (· (simp only [List.getElem?_toArray, List.getElem?_cons_succ, List.getElem?_cons_zero]; first | done | rfl)); (· exact (fun _ _ _ h => h)); (· rfl); (· (intro w hSw; (try dsimp only at hSw); go_simp; (try with_reducible rfl))))
  (try simp only [Act.put, List.setIfInBounds_toArray, List.set_cons_zero, List.set_cons_succ])
  (refine wpAnyH_take (i := 7) (oi := ?_) (v := ?_) ?_ (by kernel_rfl) (by kernel_rfl) (by kernel_rfl) ?_ (Or.inl ⟨?_, ?_⟩) (by assumption) ?_; rotate_left 2; (· (simp only [List.getElem?_toArray, List.getElem?_cons_succ, List.getElem?_cons_zero]; first | done | rfl)); (· exact (fun _ _ _ h => h)); (· rfl); (· (intro w hSw; (try dsimp only at hSw); go_simp; (try with_reducible rfl))))
  (try simp only [Act.put, List.setIfInBounds_toArray, List.set_cons_zero, List.set_cons_succ])
  (refine wpAnyH_take (i := 8) (oi := ?_) (v := ?_) ?_ (by kernel_rfl) (by kernel_rfl) (by kernel_rfl) ?_ (Or.inl ⟨?_, ?_⟩) (by assumption) ?_; rotate_left 2; (· (simp only [List.getElem?_toArray, List.getElem?_cons_succ, List.getElem?_cons_zero]; first | done | rfl)); (· exact (fun _ _ _ h => h)); (· rfl); (· (intro w hSw; (try dsimp only at hSw); go_simp; (try with_reducible rfl))))
  (try simp only [Act.put, List.setIfInBounds_toArray, List.set_cons_zero, List.set_cons_succ])
  (refine wpAnyH_take (i := 9) (oi := ?_) (v := ?_) ?_ (by kernel_rfl) (by kernel_rfl) (by kernel_rfl) ?_ (Or.inl ⟨?_, ?_⟩) (by assumption) ?_; rotate_left 2; (· (simp only [List.getElem?_toArray, List.getElem?_cons_succ, List.getElem?_cons_zero]; first | done | rfl)); (· exact (fun _ _ _ h => h)); (· rfl); (· (intro w hSw; (try dsimp only at hSw); go_simp; (try with_reducible rfl))))
  (try simp only [Act.put, List.setIfInBounds_toArray, List.set_cons_zero, List.set_cons_succ])
  (refine wpAnyH_take (i := 11) (oi := ?_) (v := ?_) ?_ (by kernel_rfl) (by kernel_rfl) (by kernel_rfl) ?_ (Or.inl ⟨?_, ?_⟩) (by assumption) ?_; rotate_left 2; (· (simp only [List.getElem?_toArray, List.getElem?_cons_succ, List.getElem?_cons_zero]; first | done | rfl)); (· exact (fun _ _ _ h => h)); (· rfl); (· (intro w hSw; (try dsimp only at hSw); go_simp; (try with_reducible rfl))))
  (try simp only [Act.put, List.setIfInBounds_toArray, List.set_cons_zero, List.set_cons_succ])
  (refine wpAnyH_take (i := 12) (oi := ?_) (v := ?_) ?_ (by kernel_rfl) (by kernel_rfl) (by kernel_rfl) ?_ (Or.inl ⟨?_, ?_⟩) (by assumption) ?_; rotate_left 2; (· (simp only [List.getElem?_toArray, List.getElem?_cons_succ, List.getElem?_cons_zero]; first | done | rfl)); (· exact (fun _ _ _ h => h)); (· rfl); (· (intro w hSw; (try dsimp only at hSw); go_simp; (try with_reducible rfl))))
  (try simp only [Act.put, List.setIfInBounds_toArray, List.set_cons_zero, List.set_cons_succ])
  refine wpAnyH_ready (rs := [2]) (by kernel_rfl) (by simp) ?_
  refine AllReadyH.cons (o := ?_) ?_ (fun K hK => ?_) AllReadyH.nil
  rotate_left 1
  · (simp only [List.getElem?_toArray, List.getElem?_cons_succ, List.getElem?_cons_zero]; first | done | rfl)
  go_simp
  go_at_call 31
  refine (wtext_any b _ org _ HWR.out (by simp; omega)).mono ?_
  rintro e D1 ⟨rfl, hwr, hwt⟩
  first | (refine hK.out _ _ ?_ (fun hq1 => ?_)) | (go_wp2_with fail; refine hK.out _ _ ?_ (fun hq1 => ?_))
  · exact HSALL.out _ (HBB.out.trans hwt)
  clear hK K
  (try simp only [Act.put, List.setIfInBounds_toArray, List.set_cons_zero, List.set_cons_succ])
  clear hq0
  replace HBB := Lib.hid (HBB.out.trans hwt)
  replace HWR := Lib.hid hwr
  clear hwr hwt
  refine wpAnyH_ready (rs := [6]) (by kernel_rfl) (by simp) ?_
  refine AllReadyH.cons (o := ?_) ?_ (fun K hK => ?_) AllReadyH.nil
  rotate_left 1
  · (simp only [List.getElem?_toArray, List.getElem?_cons_succ, List.getElem?_cons_zero]; first | done | rfl)
  go_simp
  go_at_call 32
  refine ((show Calls _ _ #[_, .int .u64 (IntKind.u64.wrap ser)] _ _ from HU2.out ▸ wlong_any b _ (u64of ser) D1 HWR.out (by simp [encText_len]; omega))).mono ?_
  rintro e D2 ⟨rfl, hwr, hwt⟩
  first | (refine hK.out _ _ ?_ (fun hq2 => ?_)) | (go_wp2_with fail; refine hK.out _ _ ?_ (fun hq2 => ?_))
  · exact HSALL.out _ (HBB.out.trans hwt)
  clear hK K
  (try simp only [Act.put, List.setIfInBounds_toArray, List.set_cons_zero, List.set_cons_succ])
  clear hq1
  replace HBB := Lib.hid (HBB.out.trans hwt)
  replace HWR := Lib.hid hwr
  clear hwr hwt
  refine wpAnyH_ready (rs := [10]) (by kernel_rfl) (by simp) ?_
  refine AllReadyH.cons (o := ?_) ?_ (fun K hK => ?_) AllReadyH.nil
  rotate_left 1
  · (simp only [List.getElem?_toArray, List.getElem?_cons_succ, List.getElem?_cons_zero]; first | done | rfl)
  go_simp
  go_at_call 32
  refine ((show Calls _ _ #[_, .int .u64 (IntKind.u64.wrap ver)] _ _ from HU1.out ▸ wlong_any b _ (u64of ver) D2 HWR.out (by simp [encText_len, encLong_len]; omega))).mono ?_
  rintro e D3 ⟨rfl, hwr, hwt⟩
  first | (refine hK.out _ _ ?_ (fun hq3 => ?_)) | (go_wp2_with fail; refine hK.out _ _ ?_ (fun hq3 => ?_))
  · exact HSALL.out _ (HBB.out.trans hwt)
  clear hK K
  (try simp only [Act.put, List.setIfInBounds_toArray, List.set_cons_zero, List.set_cons_succ])
  clear hq2
  replace HBB := Lib.hid (HBB.out.trans hwt)
  replace HWR := Lib.hid hwr
  clear hwr hwt
  refine wpAnyH_ready (rs := [13]) (by kernel_rfl) (by simp) ?_
  refine AllReadyH.cons (o := ?_) ?_ (fun K hK => ?_) AllReadyH.nil
  rotate_left 1
  · (simp only [List.getElem?_toArray, List.getElem?_cons_succ, List.getElem?_cons_zero]; first | done | rfl)
  go_simp
  go_at_call 33
  refine (wevent_any b _ es e0 ec l _ w HWR.out HCL.out (HBL.out.trans ((HB5.out.trans HBB.out).below HW0.out hle)) hle HNUM.out (by simp [encText_len, encLong_len]; omega) hlm).mono ?_
  rintro e D4 ⟨rfl, hwr, hwt⟩
  first | (refine hK.out _ _ ?_ (fun hq4 => ?_)) | (go_wp2_with fail; refine hK.out _ _ ?_ (fun hq4 => ?_))
  · exact HSALL.out _ (HBB.out.trans hwt)
  clear hK K
  (try simp only [Act.put, List.setIfInBounds_toArray, List.set_cons_zero, List.set_cons_succ])
  clear hq3
  replace HBB := Lib.hid (HBB.out.trans hwt)
  replace HWR := Lib.hid hwr
  clear hwr hwt
  refine wpAnyH_done (by kernel_rfl) ?_ _
  have hw := HWR.out
  generalize hTX : ([] ++ [byteOf 3] ++ encText org ++ encLong (u64of ser) ++ encLong (u64of ver) ++ encEvent es l) = TX at hw
  have HTX := Lib.hid hTX
  have hTL : TX.length ≤ 1000000 := (by rw [← hTX]; simp [encText_len, encLong_len]; omega)
  clear hTX
  go_wp2_with (go_at_call 15; refine (wbytes_any b _ _ hw hTL).mono ?_; rintro e w9 ⟨⟨a9, c9, rfl, h91, h92, h93⟩, hb9⟩)
  go_ret
  rw [show byteOf 3 :: (encText org ++ encLong (u64of ser) ++ encLong (u64of ver) ++ encEvent es l) = TX from HTX.out]
  exact ⟨⟨a9, c9, rfl, h91, h92, h93⟩, btrans (HBL.out.trans ((HB5.out.trans HBB.out).below HW0.out hle)) hb9⟩
end Go.Proofs.Ytpbdgbejcdncgaa.Wire
end

section
/- A READER OF BYTES: a message's closure, at subscriptions; codec.Read behind a call that ends well. -/
namespace Go.Proofs.Ytpbdgbejcdncgaa.Wire
open Go.RowKit Flt Go.Proofs.Ytpbdgbejcdncgaa.Val Go.Lib
variable {B : Nat}
attribute [local go_sem] run_store_flt
theorem rd_near {b q o : Nat} {W : World} {u : Value} {s : List UInt8} (h : RdAt W b B s) (hq : B ≤ q) (hne : q ≠ b) : RdAt (W.setCell ⟨q, o, none⟩ u) b B s := by
  obtain ⟨⟨a0, cap, hc, h1, h2, h3, h4, h5⟩, hf, hB⟩ := h
  refine ⟨⟨a0, cap, (World.cell?_setCell_other _ _ _ _ (by intro e; injection e with e1; exact hne e1)).trans hc, h1, h2, fun i hi => ?_, h4, h5⟩, by simpa using hf, hB⟩
  obtain ⟨a, e, h6⟩ := h3 i hi
  have h7 := h5 (fun e0 => by rw [e0] at hi; simp at hi) a e
  have hab : (a.add i).block = a.block := by unfold Addr.add; split <;> rfl
  exact ⟨a, e, (World.cell?_setCell_other _ _ _ _ (by intro e2; have := congrArg Addr.block e2; rw [hab] at this; have : q = a.block := this; omega)).trans h6⟩
/-- a box of many cells -/
structure BoxM (W : World) (p : Nat) (cs : Array Value) : Prop where
  c : ∀ o, o < cs.size → W.cell? ⟨p, o, none⟩ = cs[o]?
  z : ∀ o, W.frozen? ⟨p, o, none⟩ = false
  pos : 0 < cs.size
theorem BoxM.lt {W : World} {p : Nat} {cs : Array Value} (h : BoxM W p cs) : p < W.heap.size := by
  have := h.c 0 h.pos
  rw [Array.getElem?_eq_getElem h.pos] at this
  exact World.block_lt_of_cell? _ _ this
theorem BoxM.rk {W W2 : World} {p b : Nat} {cs : Array Value} (h : BoxM W p cs) (hk : RK b W W2) (hne : p ≠ b) : BoxM W2 p cs :=
  ⟨fun o ho => (hk.cell (p := ⟨p, o, none⟩) h.lt hne).trans (h.c o ho), fun o => (hk.frozen (p := ⟨p, o, none⟩) h.lt hne).trans (h.z o), h.pos⟩
theorem BoxM.below {W W2 : World} {p : Nat} {cs : Array Value} (h : BoxM W p cs) (hb : Below W.heap.size W W2) : BoxM W2 p cs :=
  ⟨fun o ho => (hb.cell (p := ⟨p, o, none⟩) h.lt).trans (h.c o ho), fun o => (hb.frozen (p := ⟨p, o, none⟩) h.lt).trans (h.z o), h.pos⟩
theorem BoxM.other {W : World} {p q o : Nat} {u : Value} {cs : Array Value} (h : BoxM W p cs) (hne : p ≠ q) : BoxM (W.setCell ⟨q, o, none⟩ u) p cs :=
  ⟨fun o2 ho => (World.cell?_setCell_other _ _ _ _ (by intro e; injection e with e1; exact hne e1.symm)).trans (h.c o2 ho), fun o2 => by simpa using h.z o2, h.pos⟩
theorem BoxM.set {W : World} {p i : Nat} {u : Value} {cs : Array Value} (h : BoxM W p cs) (hi : i < cs.size) : BoxM (W.setCell ⟨p, i, none⟩ u) p (cs.setIfInBounds i u) := by
  refine ⟨fun o ho => ?_, fun o2 => by simpa using h.z o2, by simpa using h.pos⟩
  rw [Array.size_setIfInBounds] at ho
  rw [Array.getElem?_setIfInBounds]
  by_cases e : i = o
  · subst e
    rw [if_pos rfl, if_pos hi]
    have := h.c i hi
    rw [Array.getElem?_eq_getElem hi] at this
    exact World.cell?_setCell_same _ _ _ this
  · rw [if_neg e]
    exact (World.cell?_setCell_other _ _ _ _ (by intro e2; injection e2 with _ e3; exact e e3)).trans (h.c o ho)
theorem boxm_new (w : World) (cs : Array Value) (T : TypeId) (h : 0 < cs.size) : BoxM (w.alloc (.cells cs T)) w.heap.size cs :=
  ⟨fun o _ => World.cell?_alloc_at _ _ _ _ rfl, fun o => by simp, h⟩
/-- what may turn: the reader's box, and another one -/
structure RM (b q : Nat) (W W2 : World) : Prop where
  os : W2.os = W.os
  tape : W2.tape = W.tape
  output : W2.output = W.output
  size : W.heap.size ≤ W2.heap.size
  block : ∀ p, p < W.heap.size → p ≠ b → p ≠ q → W2.heap[p]? = W.heap[p]?
theorem rm_rk {b q : Nat} {W W2 : World} (h : RK b W W2) : RM b q W W2 := ⟨h.os, h.tape, h.output, h.size, fun p hp h1 _ => h.block p hp h1⟩
theorem RM.trans {b q : Nat} {W W2 W3 : World} (h : RM b q W W2) (k : RM b q W2 W3) : RM b q W W3 :=
  ⟨k.os.trans h.os, k.tape.trans h.tape, k.output.trans h.output, Nat.le_trans h.size k.size, fun p hp h1 h2 => (k.block p (Nat.lt_of_lt_of_le hp h.size) h1 h2).trans (h.block p hp h1 h2)⟩
theorem rm_set (b q o : Nat) (W : World) (u : Value) : RM b q W (W.setCell ⟨q, o, none⟩ u) := ⟨rfl, rfl, rfl, by simp, fun p _ _ h2 => Below.heap_setCell _ _ _ _ h2⟩
theorem BoxM.rm {W W2 : World} {p b q : Nat} {cs : Array Value} (h : BoxM W p cs) (hk : RM b q W W2) (h1 : p ≠ b) (h2 : p ≠ q) : BoxM W2 p cs := by
  have e := hk.block p h.lt h1 h2
  exact ⟨fun o ho => (World.cell?_of_block (w := W) (a := ⟨p, o, none⟩) e).trans (h.c o ho), fun o => (World.frozen?_of_block (w := W) (a := ⟨p, o, none⟩) e).trans (h.z o), h.pos⟩
abbrev msgZ : Array Value := msgL 0 0 0 0 [] 0 [] none 0 0 [] 0 [] none 0 0 [] none 0 0 0 [] 0
theorem decByte_some {s t : List UInt8} {c : UInt8} (h : s = c :: t) : decByte s = some (c, t) := by rw [h]; rfl
set_option maxRecDepth 20000 in
set_option maxHeartbeats 4000000 in
theorem clo_sub (b bm br bk : Nat) (c : UInt8) (t sf rest : List UInt8) (l : List C) (w : World) (h : RdAt w b B (c :: t)) (hc : c = 1 ∨ c = 2) (hd : decFilter t = some ((sf, l), rest)) (hm : BoxM w bm msgZ) (hBm : B ≤ bm) (hmb : bm ≠ b) :
    Calls Try.prog 20 #[.pointer (some ⟨b, 0, none⟩), .pointer (some ⟨bm, 0, none⟩), .pointer (some ⟨br, 0, none⟩), .pointer (some ⟨bk, 0, none⟩)] w fun e w' => e = .returned (.tuple #[]) ∧ ∃ (c0 : Option Addr) (cap : Nat), BoxM w' bm (msgL (c.toNat : Int) 0 0 0 [] 0 [] none 0 0 [] 0 sf c0 l.length cap [] none 0 0 0 [] 0) ∧ l.length ≤ cap ∧ Conds w' c0 l ∧ (∀ a, c0 = some a → w.heap.size ≤ a.block) ∧ (c0 = none → cap = 0) ∧ RdAt w' b B rest ∧ RM b bm w w' := by
  have HH := Lib.hid h; have HM := Lib.hid hm
  clear h hm
  obtain ⟨k, hk, k0, k12⟩ : ∃ k : Int, (c.toNat : Int) = k ∧ (k == 0) = false ∧ ((k == 1) = true ∨ ((k == 1) = false ∧ (k == 2) = true)) := by
    rcases hc with rfl | rfl
    · exact ⟨1, rfl, rfl, .inl rfl⟩
    · exact ⟨2, rfl, rfl, .inr ⟨rfl, rfl⟩⟩
  have hbml := HM.out.lt
  rcases k12 with k1 | ⟨k1, k2⟩
  all_goals
    go_enter Try.func20, Try.ntmps20
    go_wp2_with (first | (go_at_call 21; refine (rbyte_any b (c :: t) w HH.out).mono ?_; rintro e w1 h1; obtain ⟨rfl, hr1, hk1⟩ := took_some h1; have HM1 := Lib.hid (HM.out.rk hk1 hmb); have x0 : w1.cell? ⟨bm, 0, none⟩ = some (.int .i64 0) := HM1.out.c 0 (by decide); have xz := HM1.out.z 0; clear h1) | (go_at_call 23; refine (rfilter_any b t _ (rd_near hr1 hBm hmb)).mono ?_; rintro e w3 (⟨sf', l', rest', c0, cap, hd', rfl, hcap, hcs, hbl, hcn, hr3, hk3⟩ | ⟨hd', _⟩); rotate_left; (rw [hd] at hd'; cases hd'); (rw [hd] at hd'; injection hd' with hd'; injection hd' with e1 e2; injection e1 with e1 e3; subst e1; subst e2; subst e3); have HM3 := Lib.hid ((HM1.out.set (i := 0) (u := .int .i64 k) (by decide)).rk hk3 hmb); have y10 : w3.cell? ⟨bm, 10, none⟩ = some (.string ⟨#[]⟩) := HM3.out.c 10 (by simp only [Array.size_setIfInBounds]; decide); have y11 : w3.cell? ⟨bm, 11, none⟩ = some (.slice none 0 0) := HM3.out.c 11 (by simp only [Array.size_setIfInBounds]; decide); have yz := HM3.out.z) | fail)
    first | go_end0 | refine bodyPost_ret (results_none rfl _ _ _) rfl ?_
    have hsz : w.heap.size ≤ w1.heap.size := hk1.size
    have hbq : ∀ a, c0 = some a → w1.heap.size ≤ a.block := fun a e => by have := hbl a e; simpa using this
    refine ⟨rfl, c0, cap, ?_, hcap, ?_, fun a e => Nat.le_trans hsz (hbq a e), hcn, rd_near (rd_near hr3 hBm hmb) hBm hmb, ?_⟩
    · rw [hk]
      exact (HM3.out.set (i := 10) (u := .string ⟨sf.toArray⟩) (by simp only [Array.size_setIfInBounds]; decide)).set (i := 11) (u := .slice c0 l.length cap) (by simp only [Array.size_setIfInBounds]; decide)
    · exact conds_keep hcs (fun a e p hp _ => (World.cell?_setCell_other _ _ _ _ (by intro e2; have := hbq a e; rw [← e2] at hp; simp at hp; omega)).trans (World.cell?_setCell_other _ _ _ _ (by intro e2; have := hbq a e; rw [← e2] at hp; simp at hp; omega)))
    · exact (rm_rk hk1).trans ((rm_set _ _ _ _ _).trans ((rm_rk hk3).trans ((rm_set _ _ _ _ _).trans (rm_set _ _ _ _ _))))
end Go.Proofs.Ytpbdgbejcdncgaa.Wire
end

section
/- THE WALKS that read a log: of, Home, people, gone, Len. -/
namespace Go.Proofs.Ytpbdgbejcdncgaa.Pol
open Go.RowKit Flt Go.Proofs.Ytpbdgbejcdncgaa.Val
attribute [local go_sem] run_store_flt
theorem any_take_succ (p : K → Bool) (l : List K) (k : Nat) (h : k < l.length) : (l.take (k + 1)).any p = ((l.take k).any p || p l[k]!) := by
  rw [getElem!_pos l k h, List.take_add_one, List.getElem?_eq_getElem h]
  show (l.take k ++ [l[k]]).any p = _
  rw [List.any_append]
  simp
theorem count_take_succ (p : K → Bool) (l : List K) (k : Nat) (h : k < l.length) : (l.take (k + 1)).countP p = (l.take k).countP p + (if p l[k]! then 1 else 0) := by
  rw [getElem!_pos l k h, List.take_add_one, List.getElem?_eq_getElem h]
  show (l.take k ++ [l[k]]).countP p = _
  rw [List.countP_append, List.countP_singleton]
theorem any_hit (p : K → Bool) (l : List K) (k : Nat) (h : k < l.length) (hp : p l[k]! = true) : l.any p = true := by
  rw [getElem!_pos l k h] at hp
  exact List.any_eq_true.2 ⟨_, List.getElem_mem h, hp⟩
theorem any_drop_cons (p : K → Bool) (l : List K) (j : Nat) (h : j < l.length) : (l.drop j).any p = (p l[j]! || (l.drop (j + 1)).any p) := by
  rw [getElem!_pos l j h, List.drop_eq_getElem_cons h, List.any_cons]
/-- a struct result's cell: eight cells written at once -/
theorem set8_at (w : World) (b : Nat) (v0 v1 v2 v3 v4 v5 v6 v7 : Value) (h : ∀ j, j < 8 → (w.cell? ⟨b, j, none⟩).isSome = true) :
    ∃ W2, W2 = ((((((((w.setCell ⟨b, 0, none⟩ v0).setCell ⟨b, 1, none⟩ v1).setCell ⟨b, 2, none⟩ v2).setCell ⟨b, 3, none⟩ v3).setCell ⟨b, 4, none⟩ v4).setCell ⟨b, 5, none⟩ v5).setCell ⟨b, 6, none⟩ v6).setCell ⟨b, 7, none⟩ v7) ∧
    W2.cell? ⟨b, 0, none⟩ = some v0 ∧ W2.cell? ⟨b, 1, none⟩ = some v1 ∧ W2.cell? ⟨b, 2, none⟩ = some v2 ∧ W2.cell? ⟨b, 3, none⟩ = some v3 ∧ W2.cell? ⟨b, 4, none⟩ = some v4 ∧ W2.cell? ⟨b, 5, none⟩ = some v5 ∧ W2.cell? ⟨b, 6, none⟩ = some v6 ∧ W2.cell? ⟨b, 7, none⟩ = some v7 ∧ Below b w W2 := by
  have e := World.cell?_setCells_in b [v0, v1, v2, v3, v4, v5, v6, v7] 0 w (fun j hj => by rw [Nat.zero_add]; exact h j hj)
  exact ⟨_, rfl, e 0 (by simp), e 1 (by simp), e 2 (by simp), e 3 (by simp), e 4 (by simp), e 5 (by simp), e 6 (by simp), e 7 (by simp),
    ((((((((Below.refl b w).setCell (Nat.le_refl _) _).setCell (Nat.le_refl _) _).setCell (Nat.le_refl _) _).setCell (Nat.le_refl _) _).setCell (Nat.le_refl _) _).setCell (Nat.le_refl _) _).setCell (Nat.le_refl _) _).setCell (Nat.le_refl _) _⟩
theorem isSome_alloc8 (w : World) (v0 v1 v2 v3 v4 v5 v6 v7 : Value) (T : TypeId) : ∀ j, j < 8 → ((w.alloc (.cells #[v0, v1, v2, v3, v4, v5, v6, v7] T)).cell? ⟨w.heap.size, j, none⟩).isSome = true := fun j hj => by
  rw [World.cell?_alloc_at _ _ _ _ rfl, Array.getElem?_eq_getElem (by exact hj)]; rfl
def noR : R := ⟨⟨0, 0, [], 0⟩, 0, [], none, 0, 0, []⟩
end Go.Proofs.Ytpbdgbejcdncgaa.Pol
end

section
/- THE WALK OF acl.Right. -/
namespace Go.Proofs.Ytpbdgbejcdncgaa.Pol
open Go.RowKit Flt Go.Proofs.Ytpbdgbejcdncgaa.Val
attribute [local go_sem] run_store_flt
/-- may it be a rule (cs: its conditions)? -/
def aclB (r : R) (cs : List C) : Bool :=
  if r.k.kind == 4 then decide (0 ≤ r.k.pl)
  else if decide (r.k.kind < 0) || decide (4 < r.k.kind) || decide (r.k.tenant < 0) || decide (4 ≤ r.k.tenant) || !Sc.nameB r.k.who then false
  else if r.k.kind == 0 then decide (0 ≤ r.br) && decide (r.br < 6)
  else if r.k.kind == 3 then Sc.nameB r.nm && Sc.rightB r.sc
  else fRight r.sc cs
set_option maxRecDepth 20000 in
set_option maxHeartbeats 4000000 in
theorem right_any (r : R) (cs : List C) (w : World) (hc : Conds w r.c0 cs) (hn : r.cn = cs.length) (hlm : cs.length ≤ 1000000)
    (hsc : r.sc.length ≤ 140737488351232) (hw : r.k.who.length ≤ 140737488351232) (hnm : r.nm.length ≤ 140737488351232) (hok : ∀ c ∈ cs, c.name.length ≤ 140737488351232 ∧ c.val.text.length ≤ 140737488351232) :
    Calls Try.prog 10 #[rv r] w fun e w' => e = .returned (.bool (aclB r cs)) ∧ Below w.heap.size w w' := by
  have hr : aclB r cs = (if r.k.kind == 4 then decide (0 ≤ r.k.pl)
    else if decide (r.k.kind < 0) || decide (4 < r.k.kind) || decide (r.k.tenant < 0) || decide (4 ≤ r.k.tenant) || !Sc.nameB r.k.who then false
    else if r.k.kind == 0 then decide (0 ≤ r.br) && decide (r.br < 6)
    else if r.k.kind == 3 then Sc.nameB r.nm && Sc.rightB r.sc
    else fRight r.sc cs) := rfl
  obtain ⟨⟨kd, tn, who, pl⟩, br, sc, c0, cn, cc, nm⟩ := r
  dsimp only at *
  subst hn
  have hfr (W : World) (h : Conds W c0 cs) := fright_any sc c0 cc cs W h hlm hsc hok
  have hnw (W : World) := Sc.name_any ⟨who.toArray⟩ W (by show who.length ≤ _; unfold maxLen; omega)
  have hnn (W : World) := Sc.name_any ⟨nm.toArray⟩ W (by show nm.length ≤ _; unfold maxLen; omega)
  have hss (W : World) := Sc.right_l sc W hsc
  have ew : (⟨who.toArray⟩ : ByteArray).data.toList = who := by simp
  have en : (⟨nm.toArray⟩ : ByteArray).data.toList = nm := by simp
  rw [ew] at hnw; rw [en] at hnn
  generalize Sc.nameB who = nw at *
  generalize Sc.nameB nm = nn at *
  generalize Sc.rightB sc = sr at *
  generalize fRight sc cs = fr at *
  generalize aclB _ cs = RES at *
  have HC := Lib.hid hc; have HR := Lib.hid hr; have HFR := Lib.hid hfr; have HNW := Lib.hid hnw; have HNN := Lib.hid hnn; have HSS := Lib.hid hss
  clear hc hr hfr hnw hnn hss ew en hok hlm
  cases k4 : (kd == 4)
  rotate_left
  · go_enter Try.func10, Try.ntmps10
    go_wp2_with fail
    go_ret
    exact ⟨ret_bool (by rw [HR.out, k4]; rfl), by repeat (first | assumption | (with_reducible exact Below.refl _ _) | exact balloc _ _ | exact balloc2 _ _ _ | refine btrans ?_ (by assumption) | refine btrans ?_ (balloc _ _))⟩
  by_cases a0 : kd < 0
  · go_enter Try.func10, Try.ntmps10
    go_wp2_with (first | (go_at_call 17; ((with_reducible refine (HNW.out _).mono ?_) ; rintro e w1 ⟨rfl, rfl⟩)) | (go_at_call 17; ((with_reducible refine (HNN.out _).mono ?_) ; rintro e w1 ⟨rfl, rfl⟩)) | (go_at_call 18; refine (HSS.out _).mono ?_; rintro e w2 ⟨rfl, ⟨nd, rfl⟩⟩) | (go_at_call 12; refine (HFR.out _ (HC.out.below (by repeat (first | assumption | (with_reducible exact Below.refl _ _) | exact balloc _ _ | exact balloc2 _ _ _ | refine btrans ?_ (by assumption) | refine btrans ?_ (balloc _ _))))).mono ?_; rintro e w2 ⟨rfl, hb2⟩) | fail)
    all_goals first | omega | (go_ret; refine ⟨ret_bool (by rw [HR.out, k4, decide_eq_true a0]; rfl), ?_⟩; first | exact bdrewN (balloc _ _) nd | exact (by repeat (first | assumption | (with_reducible exact Below.refl _ _) | exact balloc _ _ | exact balloc2 _ _ _ | refine btrans ?_ (by assumption) | refine btrans ?_ (balloc _ _))))
  by_cases a1 : 4 < kd
  · go_enter Try.func10, Try.ntmps10
    go_wp2_with (first | (go_at_call 17; ((with_reducible refine (HNW.out _).mono ?_) ; rintro e w1 ⟨rfl, rfl⟩)) | (go_at_call 17; ((with_reducible refine (HNN.out _).mono ?_) ; rintro e w1 ⟨rfl, rfl⟩)) | (go_at_call 18; refine (HSS.out _).mono ?_; rintro e w2 ⟨rfl, ⟨nd, rfl⟩⟩) | (go_at_call 12; refine (HFR.out _ (HC.out.below (by repeat (first | assumption | (with_reducible exact Below.refl _ _) | exact balloc _ _ | exact balloc2 _ _ _ | refine btrans ?_ (by assumption) | refine btrans ?_ (balloc _ _))))).mono ?_; rintro e w2 ⟨rfl, hb2⟩) | fail)
    all_goals first | omega | (go_ret; refine ⟨ret_bool (by rw [HR.out, k4, decide_eq_true a1]; simp), ?_⟩; first | exact bdrewN (balloc _ _) nd | exact (by repeat (first | assumption | (with_reducible exact Below.refl _ _) | exact balloc _ _ | exact balloc2 _ _ _ | refine btrans ?_ (by assumption) | refine btrans ?_ (balloc _ _))))
  by_cases b0 : tn < 0
  · go_enter Try.func10, Try.ntmps10
    go_wp2_with (first | (go_at_call 17; ((with_reducible refine (HNW.out _).mono ?_) ; rintro e w1 ⟨rfl, rfl⟩)) | (go_at_call 17; ((with_reducible refine (HNN.out _).mono ?_) ; rintro e w1 ⟨rfl, rfl⟩)) | (go_at_call 18; refine (HSS.out _).mono ?_; rintro e w2 ⟨rfl, ⟨nd, rfl⟩⟩) | (go_at_call 12; refine (HFR.out _ (HC.out.below (by repeat (first | assumption | (with_reducible exact Below.refl _ _) | exact balloc _ _ | exact balloc2 _ _ _ | refine btrans ?_ (by assumption) | refine btrans ?_ (balloc _ _))))).mono ?_; rintro e w2 ⟨rfl, hb2⟩) | fail)
    all_goals first | omega | (go_ret; refine ⟨ret_bool (by rw [HR.out, k4, decide_eq_true b0]; simp), ?_⟩; first | exact bdrewN (balloc _ _) nd | exact (by repeat (first | assumption | (with_reducible exact Below.refl _ _) | exact balloc _ _ | exact balloc2 _ _ _ | refine btrans ?_ (by assumption) | refine btrans ?_ (balloc _ _))))
  by_cases b1 : 4 ≤ tn
  · go_enter Try.func10, Try.ntmps10
    go_wp2_with (first | (go_at_call 17; ((with_reducible refine (HNW.out _).mono ?_) ; rintro e w1 ⟨rfl, rfl⟩)) | (go_at_call 17; ((with_reducible refine (HNN.out _).mono ?_) ; rintro e w1 ⟨rfl, rfl⟩)) | (go_at_call 18; refine (HSS.out _).mono ?_; rintro e w2 ⟨rfl, ⟨nd, rfl⟩⟩) | (go_at_call 12; refine (HFR.out _ (HC.out.below (by repeat (first | assumption | (with_reducible exact Below.refl _ _) | exact balloc _ _ | exact balloc2 _ _ _ | refine btrans ?_ (by assumption) | refine btrans ?_ (balloc _ _))))).mono ?_; rintro e w2 ⟨rfl, hb2⟩) | fail)
    all_goals first | omega | (go_ret; refine ⟨ret_bool (by rw [HR.out, k4, decide_eq_true b1]; simp), ?_⟩; first | exact bdrewN (balloc _ _) nd | exact (by repeat (first | assumption | (with_reducible exact Below.refl _ _) | exact balloc _ _ | exact balloc2 _ _ _ | refine btrans ?_ (by assumption) | refine btrans ?_ (balloc _ _))))
  have d0 : decide (kd < 0) = false := decide_eq_false a0
  have d1 : decide (4 < kd) = false := decide_eq_false a1
  have d2 : decide (tn < 0) = false := decide_eq_false b0
  have d3 : decide (4 ≤ tn) = false := decide_eq_false b1
  have HR2 := Lib.hid (show RES = (if !nw then false else if kd == 0 then decide (0 ≤ br) && decide (br < 6) else if kd == 3 then nn && sr else fr) from by rw [HR.out, k4, d0, d1, d2, d3]; rfl)
  clear HR
  cases nw
  · go_enter Try.func10, Try.ntmps10
    go_wp2_with (first | (go_at_call 17; ((with_reducible refine (HNW.out _).mono ?_) ; rintro e w1 ⟨rfl, rfl⟩)) | (go_at_call 17; ((with_reducible refine (HNN.out _).mono ?_) ; rintro e w1 ⟨rfl, rfl⟩)) | (go_at_call 18; refine (HSS.out _).mono ?_; rintro e w2 ⟨rfl, ⟨nd, rfl⟩⟩) | (go_at_call 12; refine (HFR.out _ (HC.out.below (by repeat (first | assumption | (with_reducible exact Below.refl _ _) | exact balloc _ _ | exact balloc2 _ _ _ | refine btrans ?_ (by assumption) | refine btrans ?_ (balloc _ _))))).mono ?_; rintro e w2 ⟨rfl, hb2⟩) | fail)
    all_goals first | omega | (go_ret; refine ⟨ret_bool (by rw [HR2.out]; rfl), ?_⟩; first | exact bdrewN (balloc _ _) nd | exact (by repeat (first | assumption | (with_reducible exact Below.refl _ _) | exact balloc _ _ | exact balloc2 _ _ _ | refine btrans ?_ (by assumption) | refine btrans ?_ (balloc _ _))))
  cases k0 : (kd == 0)
  rotate_left
  · by_cases r0 : 0 ≤ br
    · go_enter Try.func10, Try.ntmps10
      go_wp2_with (first | (go_at_call 17; ((with_reducible refine (HNW.out _).mono ?_) ; rintro e w1 ⟨rfl, rfl⟩)) | (go_at_call 17; ((with_reducible refine (HNN.out _).mono ?_) ; rintro e w1 ⟨rfl, rfl⟩)) | (go_at_call 18; refine (HSS.out _).mono ?_; rintro e w2 ⟨rfl, ⟨nd, rfl⟩⟩) | (go_at_call 12; refine (HFR.out _ (HC.out.below (by repeat (first | assumption | (with_reducible exact Below.refl _ _) | exact balloc _ _ | exact balloc2 _ _ _ | refine btrans ?_ (by assumption) | refine btrans ?_ (balloc _ _))))).mono ?_; rintro e w2 ⟨rfl, hb2⟩) | fail)
      all_goals first | omega | (go_ret; refine ⟨ret_bool (by rw [HR2.out, k0, decide_eq_true r0]; rfl), ?_⟩; first | exact bdrewN (balloc _ _) nd | exact (by repeat (first | assumption | (with_reducible exact Below.refl _ _) | exact balloc _ _ | exact balloc2 _ _ _ | refine btrans ?_ (by assumption) | refine btrans ?_ (balloc _ _))))
    · go_enter Try.func10, Try.ntmps10
      go_wp2_with (first | (go_at_call 17; ((with_reducible refine (HNW.out _).mono ?_) ; rintro e w1 ⟨rfl, rfl⟩)) | (go_at_call 17; ((with_reducible refine (HNN.out _).mono ?_) ; rintro e w1 ⟨rfl, rfl⟩)) | (go_at_call 18; refine (HSS.out _).mono ?_; rintro e w2 ⟨rfl, ⟨nd, rfl⟩⟩) | (go_at_call 12; refine (HFR.out _ (HC.out.below (by repeat (first | assumption | (with_reducible exact Below.refl _ _) | exact balloc _ _ | exact balloc2 _ _ _ | refine btrans ?_ (by assumption) | refine btrans ?_ (balloc _ _))))).mono ?_; rintro e w2 ⟨rfl, hb2⟩) | fail)
      all_goals first | omega | (go_ret; refine ⟨ret_bool (by rw [HR2.out, k0, show decide (0 ≤ br) = false from decide_eq_false (by omega)]; rfl), ?_⟩; first | exact bdrewN (balloc _ _) nd | exact (by repeat (first | assumption | (with_reducible exact Below.refl _ _) | exact balloc _ _ | exact balloc2 _ _ _ | refine btrans ?_ (by assumption) | refine btrans ?_ (balloc _ _))))
  cases k3 : (kd == 3)
  · go_enter Try.func10, Try.ntmps10
    go_wp2_with (first | (go_at_call 17; ((with_reducible refine (HNW.out _).mono ?_) ; rintro e w1 ⟨rfl, rfl⟩)) | (go_at_call 17; ((with_reducible refine (HNN.out _).mono ?_) ; rintro e w1 ⟨rfl, rfl⟩)) | (go_at_call 18; refine (HSS.out _).mono ?_; rintro e w2 ⟨rfl, ⟨nd, rfl⟩⟩) | (go_at_call 12; refine (HFR.out _ (HC.out.below (by repeat (first | assumption | (with_reducible exact Below.refl _ _) | exact balloc _ _ | exact balloc2 _ _ _ | refine btrans ?_ (by assumption) | refine btrans ?_ (balloc _ _))))).mono ?_; rintro e w2 ⟨rfl, hb2⟩) | fail)
    all_goals first | omega | (go_ret; refine ⟨ret_bool (by rw [HR2.out, k0, k3]; rfl), ?_⟩; first | exact bdrewN (balloc _ _) nd | exact (by repeat (first | assumption | (with_reducible exact Below.refl _ _) | exact balloc _ _ | exact balloc2 _ _ _ | refine btrans ?_ (by assumption) | refine btrans ?_ (balloc _ _))))
  cases nn
  · go_enter Try.func10, Try.ntmps10
    go_wp2_with (first | (go_at_call 17; ((with_reducible refine (HNW.out _).mono ?_) ; rintro e w1 ⟨rfl, rfl⟩)) | (go_at_call 17; ((with_reducible refine (HNN.out _).mono ?_) ; rintro e w1 ⟨rfl, rfl⟩)) | (go_at_call 18; refine (HSS.out _).mono ?_; rintro e w2 ⟨rfl, ⟨nd, rfl⟩⟩) | (go_at_call 12; refine (HFR.out _ (HC.out.below (by repeat (first | assumption | (with_reducible exact Below.refl _ _) | exact balloc _ _ | exact balloc2 _ _ _ | refine btrans ?_ (by assumption) | refine btrans ?_ (balloc _ _))))).mono ?_; rintro e w2 ⟨rfl, hb2⟩) | fail)
    all_goals first | omega | (go_ret; refine ⟨ret_bool (by rw [HR2.out, k0, k3]; rfl), ?_⟩; first | exact bdrewN (balloc _ _) nd | exact (by repeat (first | assumption | (with_reducible exact Below.refl _ _) | exact balloc _ _ | exact balloc2 _ _ _ | refine btrans ?_ (by assumption) | refine btrans ?_ (balloc _ _))))
  · go_enter Try.func10, Try.ntmps10
    go_wp2_with (first | (go_at_call 17; ((with_reducible refine (HNW.out _).mono ?_) ; rintro e w1 ⟨rfl, rfl⟩)) | (go_at_call 17; ((with_reducible refine (HNN.out _).mono ?_) ; rintro e w1 ⟨rfl, rfl⟩)) | (go_at_call 18; refine (HSS.out _).mono ?_; rintro e w2 ⟨rfl, ⟨nd, rfl⟩⟩) | (go_at_call 12; refine (HFR.out _ (HC.out.below (by repeat (first | assumption | (with_reducible exact Below.refl _ _) | exact balloc _ _ | exact balloc2 _ _ _ | refine btrans ?_ (by assumption) | refine btrans ?_ (balloc _ _))))).mono ?_; rintro e w2 ⟨rfl, hb2⟩) | fail)
    all_goals first | omega | (go_ret; refine ⟨ret_bool (by rw [HR2.out, k0, k3]; rfl), ?_⟩; first | exact bdrewN (balloc _ _) nd | exact (by repeat (first | assumption | (with_reducible exact Below.refl _ _) | exact balloc _ _ | exact balloc2 _ _ _ | refine btrans ?_ (by assumption) | refine btrans ?_ (balloc _ _))))
end Go.Proofs.Ytpbdgbejcdncgaa.Pol
end

section
/- A READER OF BYTES: wire.TakeRule, the next rule. -/
namespace Go.Proofs.Ytpbdgbejcdncgaa.Wire
open Go.RowKit Flt Go.Proofs.Ytpbdgbejcdncgaa.Val Go.Lib
variable {B : Nat}
attribute [local go_sem] run_store_flt
/-- a rule's bytes, and what is left -/
structure RuleIs (d : DR) (s rest : List UInt8) : Prop where
  enc : ∀ c0 cap, s = encRule (d.r c0 cap) d.l ++ rest
  who : d.who.length < 256
  nm : d.nm.length < 256
  sf : d.sf.length < 256
  ok : ∀ x ∈ d.l, x.name.length ≤ 140737488351232 ∧ x.val.text.length ≤ 140737488351232
  num : ∀ x ∈ d.l, x.val.num < 18446744073709551616
  few : d.l.length < 256
theorem ruleIs_of {s s1 s2 s3 s4 s5 s6 s7 who sf nm : List UInt8} {kd tn br pl : UInt8} {l : List C} (h1 : decByte s = some (kd, s1)) (h2 : decByte s1 = some (tn, s2)) (h3 : decText s2 = some (who, s3)) (h4 : decByte s3 = some (br, s4)) (h5 : decFilter s4 = some ((sf, l), s5)) (h6 : decText s5 = some (nm, s6)) (h7 : decByte s6 = some (pl, s7)) :
    RuleIs ⟨kd, tn, who, br, sf, l, nm, pl⟩ s s7 := by
  obtain ⟨_, e, h8, h9, h10⟩ := decRule_some h1 h2 h3 h4 h5 h6 h7
  obtain ⟨o1, o2, o3⟩ := conds_small h5
  exact ⟨e, h8, h9, h10, o1, o2, o3⟩
/-- what reading a rule tells -/
def TookR (B b : Nat) (w : World) (s : List UInt8) (e : Ending) (w' : World) : Prop :=
  (∃ (d : DR) (rest : List UInt8) (c0 : Option Addr) (cap : Nat), RuleIs d s rest ∧ e = .returned (.tuple #[Pol.rv (d.r c0 cap), .bool (Pol.aclB (d.r c0 cap) d.l)]) ∧ d.l.length ≤ cap ∧ Conds w' c0 d.l ∧ (∀ a, c0 = some a → w.heap.size ≤ a.block) ∧ (c0 = none → cap = 0) ∧ RdAt w' b B rest ∧ RK b w w') ∨ (e = shortP ∧ RK b w w')
theorem tookr_no {b : Nat} {w w' : World} {s : List UInt8} {e : Ending} (h2 : e = shortP) (h3 : RK b w w') : TookR B b w s e w' := .inr ⟨h2, h3⟩
theorem conds_rk {W W2 : World} {b : Nat} {a0 : Option Addr} {l : List C} (h : Conds W a0 l) (hk : RK b W W2) (hb : ∀ a, a0 = some a → a.block ≠ b) : Conds W2 a0 l :=
  conds_keep h (fun a e p hp hlt => hk.cell hlt (by rw [hp]; exact hb a e))
theorem set8_far (w : World) (b b' o : Nat) (v0 v1 v2 v3 v4 v5 v6 v7 : Value) (h : b ≠ b') : ((((((((w.setCell ⟨b, 0, none⟩ v0).setCell ⟨b, 1, none⟩ v1).setCell ⟨b, 2, none⟩ v2).setCell ⟨b, 3, none⟩ v3).setCell ⟨b, 4, none⟩ v4).setCell ⟨b, 5, none⟩ v5).setCell ⟨b, 6, none⟩ v6).setCell ⟨b, 7, none⟩ v7).cell? ⟨b', o, none⟩ = w.cell? ⟨b', o, none⟩ :=
  World.cell?_setCells_out b [v0, v1, v2, v3, v4, v5, v6, v7] 0 w ⟨b', o, none⟩ (fun h1 => absurd h1.symm h)
theorem set8_below (w : World) (b : Nat) (v0 v1 v2 v3 v4 v5 v6 v7 : Value) : Below b w ((((((((w.setCell ⟨b, 0, none⟩ v0).setCell ⟨b, 1, none⟩ v1).setCell ⟨b, 2, none⟩ v2).setCell ⟨b, 3, none⟩ v3).setCell ⟨b, 4, none⟩ v4).setCell ⟨b, 5, none⟩ v5).setCell ⟨b, 6, none⟩ v6).setCell ⟨b, 7, none⟩ v7) :=
  ((((((((Below.refl b w).setCell (Nat.le_refl _) _).setCell (Nat.le_refl _) _).setCell (Nat.le_refl _) _).setCell (Nat.le_refl _) _).setCell (Nat.le_refl _) _).setCell (Nat.le_refl _) _).setCell (Nat.le_refl _) _).setCell (Nat.le_refl _) _
theorem rule_there {W : World} {p : Nat} {cs : Array Value} (h : BoxM W p cs) {j : Nat} (hj : j < cs.size) : (W.cell? ⟨p, j, none⟩).isSome = true := by
  rw [h.c j hj, Array.getElem?_eq_getElem hj]; rfl
theorem rule_fin {R : Ending → World → Prop} {T : Array Value} {W9 : World} {p : Nat} {ac : Bool} {v0 v1 v2 v3 v4 v5 v6 v7 : Value} (h2 : T[2]?.getD undef = .pointer (some ⟨p, 0, none⟩)) (h3 : T[3]?.getD undef = .bool ac)
    (e0 : W9.cell? ⟨p, 0, none⟩ = some v0) (e1 : W9.cell? ⟨p, 1, none⟩ = some v1) (e2 : W9.cell? ⟨p, 2, none⟩ = some v2) (e3 : W9.cell? ⟨p, 3, none⟩ = some v3) (e4 : W9.cell? ⟨p, 4, none⟩ = some v4) (e5 : W9.cell? ⟨p, 5, none⟩ = some v5) (e6 : W9.cell? ⟨p, 6, none⟩ = some v6) (e7 : W9.cell? ⟨p, 7, none⟩ = some v7)
    (hR : R (.returned (.tuple #[.agg #[v0, v1, v2, v3, v4, v5, v6, v7], .bool ac])) W9) :
    bodyPost Try.prog Try.f22 R .ret { tmps := T, defers := [] } W9 := by
  refine bodyPost_ret (v := .tuple #[.agg #[v0, v1, v2, v3, v4, v5, v6, v7], .bool ac]) ?_ rfl hR
  simp [results, Try.results22, go_sem, h2, h3, e0, e1, e2, e3, e4, e5, e6, e7]
/-- eight cells of a box written -/
theorem rule_put {W : World} {p : Nat} {cs : Array Value} (h : BoxM W p cs) (h8 : cs.size = 8) (v0 v1 v2 v3 v4 v5 v6 v7 : Value) {W2 : World} (hW : W2 = (((((((W.setCell ⟨p, 0, none⟩ v0).setCell ⟨p, 1, none⟩ v1).setCell ⟨p, 2, none⟩ v2).setCell ⟨p, 3, none⟩ v3).setCell ⟨p, 4, none⟩ v4).setCell ⟨p, 5, none⟩ v5).setCell ⟨p, 6, none⟩ v6).setCell ⟨p, 7, none⟩ v7) :
    (W2.cell? ⟨p, 0, none⟩ = some v0 ∧ W2.cell? ⟨p, 1, none⟩ = some v1 ∧ W2.cell? ⟨p, 2, none⟩ = some v2 ∧ W2.cell? ⟨p, 3, none⟩ = some v3 ∧ W2.cell? ⟨p, 4, none⟩ = some v4 ∧ W2.cell? ⟨p, 5, none⟩ = some v5 ∧ W2.cell? ⟨p, 6, none⟩ = some v6 ∧ W2.cell? ⟨p, 7, none⟩ = some v7) ∧ Below p W W2 ∧ (∀ q : Addr, q.block ≠ p → W2.cell? q = W.cell? q) ∧ (∀ q : Nat, q ≠ p → W2.heap[q]? = W.heap[q]?) ∧ ∀ q : Addr, W2.frozen? q = W.frozen? q := by
  subst hW
  have e := World.cell?_setCells_in p [v0, v1, v2, v3, v4, v5, v6, v7] 0 W (fun j hj => by rw [Nat.zero_add]; exact rule_there h (by rw [h8]; exact hj))
  refine ⟨⟨e 0 (by simp), e 1 (by simp), e 2 (by simp), e 3 (by simp), e 4 (by simp), e 5 (by simp), e 6 (by simp), e 7 (by simp)⟩, set8_below _ _ _ _ _ _ _ _ _ _, fun q hq => World.cell?_setCells_out p [v0, v1, v2, v3, v4, v5, v6, v7] 0 W q (fun h1 => absurd h1 hq), fun q hq => ?_, fun q => by simp⟩
  have k : ∀ (X : World) (o : Nat) (v : Value), (X.setCell ⟨p, o, none⟩ v).heap[q]? = X.heap[q]? := fun X o v => Below.heap_setCell _ _ _ _ hq
  rw [k, k, k, k, k, k, k, k]
set_option maxRecDepth 20000 in
set_option maxHeartbeats 1000000 in
theorem trule_any (b : Nat) (s : List UInt8) (w : World) (h : RdAt w b B s) :
    Calls Try.prog 22 #[.pointer (some ⟨b, 0, none⟩)] w fun e w' => TookR B b w s e w' := by
  have hbw := h.lt
  have HH := Lib.hid (h.below (balloc w (.cells #[.int .i64 0, .int .i64 0, .string ⟨#[]⟩, .int .i64 0, .string ⟨#[]⟩, .slice none 0 0, .string ⟨#[]⟩, .int .i64 0] 28))); clear h
  have HKW := Lib.hid (rk_below (b := b) (balloc w (.cells #[.int .i64 0, .int .i64 0, .string ⟨#[]⟩, .int .i64 0, .string ⟨#[]⟩, .slice none 0 0, .string ⟨#[]⟩, .int .i64 0] 28)))
  have hsw : w.heap.size < (w.alloc (.cells #[.int .i64 0, .int .i64 0, .string ⟨#[]⟩, .int .i64 0, .string ⟨#[]⟩, .slice none 0 0, .string ⟨#[]⟩, .int .i64 0] 28)).heap.size := by simp
  have HP0 := Lib.hid (boxm_new w #[.int .i64 0, .int .i64 0, .string ⟨#[]⟩, .int .i64 0, .string ⟨#[]⟩, .slice none 0 0, .string ⟨#[]⟩, .int .i64 0] 28 (by decide))
  go_enter Try.func22, Try.ntmps22
  go_upto_region 1 with fail
  generalize World.alloc w _ = W0 at *
  have HK0 := Lib.hid (RK.refl b W0)
  go_upto_region 2 with (first
    | (go_at_call 21; (with_reducible refine (rbyte_any b s6 _ HR6.out).mono ?_); rintro e w7 (⟨pl, s7, hd7, rfl, hr, hk⟩ | ⟨hd7, rfl, hk⟩); (all_goals (have HK7 := Lib.hid (HK6.out.trans hk))); (have HR7 := Lib.hid hr; clear hr); (have HC7 := Lib.hid (conds_rk HC6.out hk HBL.out)); (all_goals clear hk))
    | (go_at_call 24; (with_reducible refine (rtext_any b s5 _ HR5.out).mono ?_); rintro e w6 (⟨nm, s6, hd6, rfl, hr, hk⟩ | ⟨hd6, rfl, hk⟩); (all_goals (have HK6 := Lib.hid (HK5.out.trans hk))); (have HR6 := Lib.hid hr; clear hr); (have HC6 := Lib.hid (conds_rk HC5.out hk HBL.out)); (all_goals clear hk))
    | (go_at_call 23; (with_reducible refine (rfilter_any b s4 _ HR4.out).mono ?_); rintro e w5 (⟨sf, l, s5, c0, cap, hd5, rfl, hcap, hcs, hbl, hcn, hr, hk⟩ | ⟨hd5, rfl, hk⟩); (all_goals (have HK5 := Lib.hid (HK4.out.trans hk))); (have HR5 := Lib.hid hr; clear hr); (have HC5 := Lib.hid hcs; have HBL := Lib.hid (show ∀ a, c0 = some a → a.block ≠ b from fun a e => by have := hbl a e; have := HR4.out.lt; omega); have HBB := Lib.hid (show ∀ a, c0 = some a → w.heap.size < a.block from fun a e => Nat.lt_of_lt_of_le hsw (Nat.le_trans HK4.out.size (hbl a e))); have HCN := Lib.hid hcn; clear hcs hbl hcn); (all_goals clear hk))
    | (go_at_call 21; (with_reducible refine (rbyte_any b s3 _ HR3.out).mono ?_); rintro e w4 (⟨br, s4, hd4, rfl, hr, hk⟩ | ⟨hd4, rfl, hk⟩); (all_goals (have HK4 := Lib.hid (HK3.out.trans hk))); (have HR4 := Lib.hid hr; clear hr); (all_goals clear hk))
    | (go_at_call 24; (with_reducible refine (rtext_any b s2 _ HR2.out).mono ?_); rintro e w3 (⟨who, s3, hd3, rfl, hr, hk⟩ | ⟨hd3, rfl, hk⟩); (all_goals (have HK3 := Lib.hid (HK2.out.trans hk))); (have HR3 := Lib.hid hr; clear hr); (all_goals clear hk))
    | (go_at_call 21; (with_reducible refine (rbyte_any b s1 _ HR1.out).mono ?_); rintro e w2 (⟨tn, s2, hd2, rfl, hr, hk⟩ | ⟨hd2, rfl, hk⟩); (all_goals (have HK2 := Lib.hid (HK1.out.trans hk))); (have HR2 := Lib.hid hr; clear hr); (all_goals clear hk))
    | (go_at_call 21; (with_reducible refine (rbyte_any b s _ HH.out).mono ?_); rintro e w1 (⟨kd, s1, hd1, rfl, hr, hk⟩ | ⟨hd1, rfl, hk⟩); (all_goals (have HK1 := Lib.hid (HK0.out.trans hk))); (have HR1 := Lib.hid hr; clear hr); (all_goals clear hk))
    | fail)
  all_goals first | (exact ⟨rfl, tookr_no rfl (HKW.out.trans (by assumption : Hid (RK b W0 _)).out)⟩) | skip
  have hri := ruleIs_of hd1 hd2 hd3 hd4 hd5 hd6 hd7
  have HRI := Lib.hid hri
  clear hri hd1 hd2 hd3 hd4 hd5 hd6 hd7 HK1 HK2 HK3 HK4 HK5 HK6 HR1 HR2 HR3 HR4 HR5 HR6 HC5 HC6 HK0 HH
  have hb8 := balloc w7 (.cells #[.int .i64 (kd.toNat : Int), .int .i64 (tn.toNat : Int), .string ⟨who.toArray⟩, .int .i64 (br.toNat : Int), .string ⟨sf.toArray⟩, .slice c0 l.length cap, .string ⟨nm.toArray⟩, .int .i64 (pl.toNat : Int)] 28)
  have HX8 : ∀ o, (w7.alloc (.cells #[.int .i64 (kd.toNat : Int), .int .i64 (tn.toNat : Int), .string ⟨who.toArray⟩, .int .i64 (br.toNat : Int), .string ⟨sf.toArray⟩, .slice c0 l.length cap, .string ⟨nm.toArray⟩, .int .i64 (pl.toNat : Int)] 28)).cell? ⟨w7.heap.size, o, none⟩ = #[.int .i64 (kd.toNat : Int), .int .i64 (tn.toNat : Int), .string ⟨who.toArray⟩, .int .i64 (br.toNat : Int), .string ⟨sf.toArray⟩, .slice c0 l.length cap, .string ⟨nm.toArray⟩, .int .i64 (pl.toNat : Int)][o]? := fun o => World.cell?_alloc_at _ _ _ _ rfl
  have hx := boxm_new w7 #[.int .i64 (kd.toNat : Int), .int .i64 (tn.toNat : Int), .string ⟨who.toArray⟩, .int .i64 (br.toNat : Int), .string ⟨sf.toArray⟩, .slice c0 l.length cap, .string ⟨nm.toArray⟩, .int .i64 (pl.toNat : Int)] 28 (by simp)
  have hnb : w7.heap.size ≠ b := by have := HR7.out.lt; omega
  have hsz7 : w.heap.size < w7.heap.size := Nat.lt_of_lt_of_le hsw HK7.out.size
  generalize World.alloc w7 _ = W8 at *
  have hp8 := (HP0.out.rk HK7.out (by omega)).below hb8
  have hright := fun W (hb : Below W8.heap.size W8 W) => Pol.right_any (DR.r ⟨kd, tn, who, br, sf, l, nm, pl⟩ c0 cap) l W ((HC7.out.below hb8).below hb) rfl (by have := HRI.out.few; dsimp only at this; omega) (by have := HRI.out.sf; dsimp only at this; show sf.length ≤ _; omega) (by have := HRI.out.who; dsimp only at this; show who.length ≤ _; omega) (by have := HRI.out.nm; dsimp only at this; show nm.length ≤ _; omega) HRI.out.ok
  have hac : Pol.aclB (DR.r ⟨kd, tn, who, br, sf, l, nm, pl⟩ c0 cap) l = Pol.aclB (DR.r ⟨kd, tn, who, br, sf, l, nm, pl⟩ c0 cap) l := rfl
  generalize hAC : Pol.aclB (DR.r ⟨kd, tn, who, br, sf, l, nm, pl⟩ c0 cap) l = ac at *
  replace hright : ∀ W, Below W8.heap.size W8 W → Calls Try.prog 10 #[.agg #[.int .i64 (kd.toNat : Int), .int .i64 (tn.toNat : Int), .string ⟨who.toArray⟩, .int .i64 (br.toNat : Int), .string ⟨sf.toArray⟩, .slice c0 l.length cap, .string ⟨nm.toArray⟩, .int .i64 (pl.toNat : Int)]] W fun e w' => e = .returned (.bool ac) ∧ Below W.heap.size W w' := hright
  have HAC := Lib.hid hAC; have HRIGHT := Lib.hid hright; have HP8 := Lib.hid hp8; have HB8 := Lib.hid hb8
  have hxc := hx.c
  have HCELL := Lib.hid (show ∀ o, W8.cell? ⟨w7.heap.size, o, none⟩ = #[.int .i64 (kd.toNat : Int), .int .i64 (tn.toNat : Int), .string ⟨who.toArray⟩, .int .i64 (br.toNat : Int), .string ⟨sf.toArray⟩, .slice c0 l.length cap, .string ⟨nm.toArray⟩, .int .i64 (pl.toNat : Int)][o]? from HX8)
  have HCELLD := Lib.hid (show ∀ o, W8.drew.cell? ⟨w7.heap.size, o, none⟩ = #[.int .i64 (kd.toNat : Int), .int .i64 (tn.toNat : Int), .string ⟨who.toArray⟩, .int .i64 (br.toNat : Int), .string ⟨sf.toArray⟩, .slice c0 l.length cap, .string ⟨nm.toArray⟩, .int .i64 (pl.toNat : Int)][o]? from HX8)
  have hlt8 : w7.heap.size < W8.heap.size := hx.lt
  clear hac hAC hright hp8 hb8 hx hxc HX8
  refine wp_region_held_drew (S := (fun w' => ∀ o, w'.cell? ⟨w7.heap.size, o, none⟩ = #[.int .i64 (kd.toNat : Int), .int .i64 (tn.toNat : Int), .string ⟨who.toArray⟩, .int .i64 (br.toNat : Int), .string ⟨sf.toArray⟩, .slice c0 l.length cap, .string ⟨nm.toArray⟩, .int .i64 (pl.toNat : Int)][o]?)) (by kernel_rfl) ?_ (fun hq0 => ?_)
  · ((try dsimp only); (first | (with_reducible exact HCELLD.out) | (with_reducible exact HC99.out) | (intro o; refine (set8_far _ _ _ _ _ _ _ _ _ _ _ _ (Nat.ne_of_lt hsz7)).trans ?_; with_reducible exact HC99.out o)))
  (refine wpAnyH_take (i := 0) (oi := ?_) (v := ?_) ?_ (by kernel_rfl) (by kernel_rfl) (by kernel_rfl) ?_ (Or.inl ⟨?_, ?_⟩) (by assumption) ?_; rotate_left 2; (· (simp only [List.getElem?_toArray, List.getElem?_cons_zero]; first | done | rfl)); (· exact (fun _ _ _ h => h)); (· rfl); (· (intro w hSw; (try dsimp only at hSw); go_simp; (try with_reducible rfl))))
  (try simp only [Act.put, List.setIfInBounds_toArray, List.set_cons_zero, List.set_cons_succ])
  (refine wpAnyH_take (i := 1) (oi := ?_) (v := ?_) ?_ (by kernel_rfl) (by kernel_rfl) (by kernel_rfl) ?_ (Or.inl ⟨?_, ?_⟩) (by assumption) ?_; rotate_left 2; (· (simp only [List.getElem?_toArray, List.getElem?_cons_succ, List.getElem?_cons_zero]; first | done | rfl)); (· exact (fun _ _ _ h => h)); (· rfl); (· (intro w hSw; (try dsimp only at hSw); go_simp; (try with_reducible rfl))))
  (try simp only [Act.put, List.setIfInBounds_toArray, List.set_cons_zero, List.set_cons_succ])
  refine wpAnyH_ready (rs := [2]) (by kernel_rfl) (by simp) ?_
  refine AllReadyH.cons (o := ?_) ?_ (fun K hK => ?_) AllReadyH.nil
  rotate_left 1
  · (simp only [List.getElem?_toArray, List.getElem?_cons_succ, List.getElem?_cons_zero]; first | done | rfl)
  go_simp
  first | (refine hK.out _ _ ?_ (fun hq1 => ?_)) | ((go_at_call 10; (with_reducible refine (HRIGHT.out W8.drew (bdrewN (Below.refl _ _) 1)).mono ?_); rintro e w9 ⟨rfl, hb9⟩; have HC99 := Lib.hid (show ∀ o, w9.cell? ⟨w7.heap.size, o, none⟩ = #[.int .i64 (kd.toNat : Int), .int .i64 (tn.toNat : Int), .string ⟨who.toArray⟩, .int .i64 (br.toNat : Int), .string ⟨sf.toArray⟩, .slice c0 l.length cap, .string ⟨nm.toArray⟩, .int .i64 (pl.toNat : Int)][o]? from fun o => ((bcell (bdrew0 hb9)).1 _ o hlt8).trans (HCELL.out o)); have HP9 := Lib.hid (HP8.out.below (bdrew0 hb9)); have y0 : w9.cell? ⟨w.heap.size, 0, none⟩ = some (.int .i64 0) := HP9.out.c 0 (by decide); have y1 : w9.cell? ⟨w.heap.size, 1, none⟩ = some (.int .i64 0) := HP9.out.c 1 (by decide); have y2 : w9.cell? ⟨w.heap.size, 2, none⟩ = some (.string ⟨#[]⟩) := HP9.out.c 2 (by decide); have y3 : w9.cell? ⟨w.heap.size, 3, none⟩ = some (.int .i64 0) := HP9.out.c 3 (by decide); have y4 : w9.cell? ⟨w.heap.size, 4, none⟩ = some (.string ⟨#[]⟩) := HP9.out.c 4 (by decide); have y5 : w9.cell? ⟨w.heap.size, 5, none⟩ = some (.slice none 0 0) := HP9.out.c 5 (by decide); have y6 : w9.cell? ⟨w.heap.size, 6, none⟩ = some (.string ⟨#[]⟩) := HP9.out.c 6 (by decide); have y7 : w9.cell? ⟨w.heap.size, 7, none⟩ = some (.int .i64 0) := HP9.out.c 7 (by decide); have yz := HP9.out.z); refine hK.out _ _ ?_ (fun hq1 => ?_)) | ((go_at_call 10; (with_reducible refine (HRIGHT.out W8.drew (bdrewN (Below.refl _ _) 1)).mono ?_); rintro e w9 ⟨rfl, hb9⟩; have HC99 := Lib.hid (show ∀ o, w9.cell? ⟨w7.heap.size, o, none⟩ = #[.int .i64 (kd.toNat : Int), .int .i64 (tn.toNat : Int), .string ⟨who.toArray⟩, .int .i64 (br.toNat : Int), .string ⟨sf.toArray⟩, .slice c0 l.length cap, .string ⟨nm.toArray⟩, .int .i64 (pl.toNat : Int)][o]? from fun o => ((bcell (bdrew0 hb9)).1 _ o hlt8).trans (HCELL.out o)); have HP9 := Lib.hid (HP8.out.below (bdrew0 hb9)); have y0 : w9.cell? ⟨w.heap.size, 0, none⟩ = some (.int .i64 0) := HP9.out.c 0 (by decide); have y1 : w9.cell? ⟨w.heap.size, 1, none⟩ = some (.int .i64 0) := HP9.out.c 1 (by decide); have y2 : w9.cell? ⟨w.heap.size, 2, none⟩ = some (.string ⟨#[]⟩) := HP9.out.c 2 (by decide); have y3 : w9.cell? ⟨w.heap.size, 3, none⟩ = some (.int .i64 0) := HP9.out.c 3 (by decide); have y4 : w9.cell? ⟨w.heap.size, 4, none⟩ = some (.string ⟨#[]⟩) := HP9.out.c 4 (by decide); have y5 : w9.cell? ⟨w.heap.size, 5, none⟩ = some (.slice none 0 0) := HP9.out.c 5 (by decide); have y6 : w9.cell? ⟨w.heap.size, 6, none⟩ = some (.string ⟨#[]⟩) := HP9.out.c 6 (by decide); have y7 : w9.cell? ⟨w.heap.size, 7, none⟩ = some (.int .i64 0) := HP9.out.c 7 (by decide); have yz := HP9.out.z); go_wp2_with fail; refine hK.out _ _ ?_ (fun hq1 => ?_)) | fail
  · ((try dsimp only); (first | (with_reducible exact HCELLD.out) | (with_reducible exact HC99.out) | (intro o; refine (set8_far _ _ _ _ _ _ _ _ _ _ _ _ (Nat.ne_of_lt hsz7)).trans ?_; with_reducible exact HC99.out o)))
  clear hK K
  (try simp only [Act.put, List.setIfInBounds_toArray, List.set_cons_zero, List.set_cons_succ])
  clear hq0
  refine wpAnyH_ready (rs := [3]) (by kernel_rfl) (by simp) ?_
  refine AllReadyH.cons (o := ?_) ?_ (fun K hK => ?_) AllReadyH.nil
  rotate_left 1
  · (simp only [List.getElem?_toArray, List.getElem?_cons_succ, List.getElem?_cons_zero]; first | done | rfl)
  go_simp
  first | (refine hK.out _ _ ?_ (fun hq2 => ?_)) | ((go_at_call 10; (with_reducible refine (HRIGHT.out W8.drew (bdrewN (Below.refl _ _) 1)).mono ?_); rintro e w9 ⟨rfl, hb9⟩; have HC99 := Lib.hid (show ∀ o, w9.cell? ⟨w7.heap.size, o, none⟩ = #[.int .i64 (kd.toNat : Int), .int .i64 (tn.toNat : Int), .string ⟨who.toArray⟩, .int .i64 (br.toNat : Int), .string ⟨sf.toArray⟩, .slice c0 l.length cap, .string ⟨nm.toArray⟩, .int .i64 (pl.toNat : Int)][o]? from fun o => ((bcell (bdrew0 hb9)).1 _ o hlt8).trans (HCELL.out o)); have HP9 := Lib.hid (HP8.out.below (bdrew0 hb9)); have y0 : w9.cell? ⟨w.heap.size, 0, none⟩ = some (.int .i64 0) := HP9.out.c 0 (by decide); have y1 : w9.cell? ⟨w.heap.size, 1, none⟩ = some (.int .i64 0) := HP9.out.c 1 (by decide); have y2 : w9.cell? ⟨w.heap.size, 2, none⟩ = some (.string ⟨#[]⟩) := HP9.out.c 2 (by decide); have y3 : w9.cell? ⟨w.heap.size, 3, none⟩ = some (.int .i64 0) := HP9.out.c 3 (by decide); have y4 : w9.cell? ⟨w.heap.size, 4, none⟩ = some (.string ⟨#[]⟩) := HP9.out.c 4 (by decide); have y5 : w9.cell? ⟨w.heap.size, 5, none⟩ = some (.slice none 0 0) := HP9.out.c 5 (by decide); have y6 : w9.cell? ⟨w.heap.size, 6, none⟩ = some (.string ⟨#[]⟩) := HP9.out.c 6 (by decide); have y7 : w9.cell? ⟨w.heap.size, 7, none⟩ = some (.int .i64 0) := HP9.out.c 7 (by decide); have yz := HP9.out.z); refine hK.out _ _ ?_ (fun hq2 => ?_)) | ((go_at_call 10; (with_reducible refine (HRIGHT.out W8.drew (bdrewN (Below.refl _ _) 1)).mono ?_); rintro e w9 ⟨rfl, hb9⟩; have HC99 := Lib.hid (show ∀ o, w9.cell? ⟨w7.heap.size, o, none⟩ = #[.int .i64 (kd.toNat : Int), .int .i64 (tn.toNat : Int), .string ⟨who.toArray⟩, .int .i64 (br.toNat : Int), .string ⟨sf.toArray⟩, .slice c0 l.length cap, .string ⟨nm.toArray⟩, .int .i64 (pl.toNat : Int)][o]? from fun o => ((bcell (bdrew0 hb9)).1 _ o hlt8).trans (HCELL.out o)); have HP9 := Lib.hid (HP8.out.below (bdrew0 hb9)); have y0 : w9.cell? ⟨w.heap.size, 0, none⟩ = some (.int .i64 0) := HP9.out.c 0 (by decide); have y1 : w9.cell? ⟨w.heap.size, 1, none⟩ = some (.int .i64 0) := HP9.out.c 1 (by decide); have y2 : w9.cell? ⟨w.heap.size, 2, none⟩ = some (.string ⟨#[]⟩) := HP9.out.c 2 (by decide); have y3 : w9.cell? ⟨w.heap.size, 3, none⟩ = some (.int .i64 0) := HP9.out.c 3 (by decide); have y4 : w9.cell? ⟨w.heap.size, 4, none⟩ = some (.string ⟨#[]⟩) := HP9.out.c 4 (by decide); have y5 : w9.cell? ⟨w.heap.size, 5, none⟩ = some (.slice none 0 0) := HP9.out.c 5 (by decide); have y6 : w9.cell? ⟨w.heap.size, 6, none⟩ = some (.string ⟨#[]⟩) := HP9.out.c 6 (by decide); have y7 : w9.cell? ⟨w.heap.size, 7, none⟩ = some (.int .i64 0) := HP9.out.c 7 (by decide); have yz := HP9.out.z); go_wp2_with fail; refine hK.out _ _ ?_ (fun hq2 => ?_)) | fail
  · ((try dsimp only); (first | (with_reducible exact HCELLD.out) | (with_reducible exact HC99.out) | (intro o; refine (set8_far _ _ _ _ _ _ _ _ _ _ _ _ (Nat.ne_of_lt hsz7)).trans ?_; with_reducible exact HC99.out o)))
  clear hK K
  (try simp only [Act.put, List.setIfInBounds_toArray, List.set_cons_zero, List.set_cons_succ])
  clear hq1
  (refine wpAnyH_take (i := 4) (oi := ?_) (v := ?_) ?_ (by kernel_rfl) (by kernel_rfl) (by kernel_rfl) ?_ (Or.inl ⟨?_, ?_⟩) (by assumption) ?_; rotate_left 2; (· (simp only [List.getElem?_toArray, List.getElem?_cons_succ, List.getElem?_cons_zero]; first | done | rfl)); (· exact (fun _ _ _ h => h)); (· rfl); (· (intro w hSw; (try dsimp only at hSw); go_simp; (try with_reducible rfl))))
  (try simp only [Act.put, List.setIfInBounds_toArray, List.set_cons_zero, List.set_cons_succ])
  refine wpAnyH_done (by kernel_rfl) ?_ _
  go_wp2_with fail
  clear hq2 y0 y1 y2 y3 y4 y5 y6 y7 yz
  generalize hW : World.setCell (World.setCell _ _ _) _ _ = W10
  obtain ⟨⟨e0, e1, e2, e3, e4, e5, e6, e7⟩, hb10, hfar, hblk, hfz⟩ := rule_put HP9.out rfl _ _ _ _ _ _ _ _ hW.symm
  clear hW
  have hb79 : Below w7.heap.size w7 w9 := HB8.out.trans ((bdrew0 hb9).mono HB8.out.size)
  have hk7 := HK7.out; have hkw := HKW.out
  refine rule_fin rfl rfl e0 e1 e2 e3 e4 e5 e6 e7 (.inl ⟨_, s7, c0, cap, HRI.out, ?_, hcap, ?_, fun a e => Nat.le_of_lt (HBB.out a e), HCN.out, ?_, ?_⟩)
  · rw [HAC.out]; rfl
  · exact conds_keep (HC7.out.below hb79) (fun a e p hp _ => hfar p (by rw [hp]; have := HBB.out a e; omega))
  · have hr9 := HR7.out.below hb79
    exact hr9.low ⟨hb10.os, hb10.tape, hb10.output, hb10.size, fun p hp => hblk p (by omega)⟩
  · have hk := hkw.trans hk7
    exact ⟨hb10.os.trans (hb79.os.trans hk.os), hb10.tape.trans (hb79.tape.trans hk.tape), hb10.output.trans (hb79.output.trans hk.output), Nat.le_trans hk.size (Nat.le_trans hb79.size hb10.size), fun p hp hpb => (hblk p (by omega)).trans ((hb79.block p (by omega)).trans (hk.block p hp hpb))⟩
end Go.Proofs.Ytpbdgbejcdncgaa.Wire
end

section
/- A READER OF BYTES: wire.ReadMsg's closure, at any bytes. -/
namespace Go.Proofs.Ytpbdgbejcdncgaa.Wire
open Go.RowKit Flt Go.Proofs.Ytpbdgbejcdncgaa.Val Go.Lib
variable {B : Nat}
attribute [local go_sem] run_store_flt
/-- what may turn: the boxes of a list -/
structure RL (L : List Nat) (W W2 : World) : Prop where
  os : W2.os = W.os
  tape : W2.tape = W.tape
  output : W2.output = W.output
  size : W.heap.size ≤ W2.heap.size
  block : ∀ p, p < W.heap.size → p ∉ L → W2.heap[p]? = W.heap[p]?
theorem RL.refl (L : List Nat) (W : World) : RL L W W := ⟨rfl, rfl, rfl, Nat.le_refl _, fun _ _ _ => rfl⟩
theorem RL.trans {L : List Nat} {W W2 W3 : World} (h : RL L W W2) (k : RL L W2 W3) : RL L W W3 :=
  ⟨k.os.trans h.os, k.tape.trans h.tape, k.output.trans h.output, Nat.le_trans h.size k.size, fun p hp h1 => (k.block p (Nat.lt_of_lt_of_le hp h.size) h1).trans (h.block p hp h1)⟩
theorem rl_rk {b : Nat} {L : List Nat} {W W2 : World} (h : RK b W W2) (hb : b ∈ L) : RL L W W2 := ⟨h.os, h.tape, h.output, h.size, fun p hp h1 => h.block p hp (fun e => h1 (e ▸ hb))⟩
theorem rl_set {L : List Nat} {W0 W : World} {q o : Nat} {u : Value} (h : RL L W0 W) (hq : q ∈ L) : RL L W0 (W.setCell ⟨q, o, none⟩ u) :=
  h.trans ⟨rfl, rfl, rfl, by simp, fun p _ h2 => Below.heap_setCell _ _ _ _ (fun e => h2 (by have : p = q := e; exact this ▸ hq))⟩
theorem rl_below {L : List Nat} {W W2 : World} (h : Below W.heap.size W W2) : RL L W W2 := ⟨h.os, h.tape, h.output, h.size, fun p hp _ => h.block p hp⟩
theorem BoxM.rl {W W2 : World} {p : Nat} {L : List Nat} {cs : Array Value} (h : BoxM W p cs) (hk : RL L W W2) (h1 : p ∉ L) : BoxM W2 p cs := by
  have e := hk.block p h.lt h1
  exact ⟨fun o ho => (World.cell?_of_block (w := W) (a := ⟨p, o, none⟩) e).trans (h.c o ho), fun o => (World.frozen?_of_block (w := W) (a := ⟨p, o, none⟩) e).trans (h.z o), h.pos⟩
/-- a message's cells -/
abbrev mcs (m : M) : Array Value := msgL m.kind m.at_ m.r.k.kind m.r.k.tenant m.r.k.who m.r.br m.r.sc m.r.c0 m.r.cn m.r.cc m.r.nm m.r.k.pl m.fs m.f0 m.fn m.fc m.es m.e0 m.en m.ec m.ver m.org m.ser
/-- what a message tells of its bytes -/
def Tells (n : Nat) (w : World) (m : M) (s rest : List UInt8) : Prop :=
  (m.kind = 0 ∧ ∃ cs : List C, Conds w m.r.c0 cs ∧ m.r.cn = cs.length ∧ (∀ a, m.r.c0 = some a → n ≤ a.block) ∧ s = [byteOf m.kind] ++ [byteOf m.at_] ++ encRule m.r cs ++ rest ∧ (∀ x ∈ cs, x.val.num < 18446744073709551616) ∧ cs.length < 256)
  ∨ ((m.kind = 1 ∨ m.kind = 2) ∧ ∃ cs : List C, Conds w m.f0 cs ∧ m.fn = cs.length ∧ (∀ a, m.f0 = some a → n ≤ a.block) ∧ s = [byteOf m.kind] ++ encFilter m.fs cs ++ rest ∧ (∀ x ∈ cs, x.val.num < 18446744073709551616) ∧ cs.length < 256 ∧ m.fs.length < 256 ∧ (∀ x ∈ cs, x.name.length ≤ 140737488351232 ∧ x.val.text.length ≤ 140737488351232))
  ∨ (m.kind = 3 ∧ ∃ l : List A, Attrs w m.e0 l ∧ m.en = l.length ∧ (∀ a, m.e0 = some a → n ≤ a.block) ∧ s = [byteOf m.kind] ++ encText m.org ++ encLong (u64of m.ser) ++ encLong (u64of m.ver) ++ encEvent m.es l ++ rest ∧ (∀ x ∈ l, x.val.num < 18446744073709551616) ∧ l.length < 256 ∧ m.es.length < 256 ∧ m.org.length < 256)
/-- what the closure tells -/
def CloP (B b bm br bk : Nat) (w : World) (s : List UInt8) (e : Ending) (w' : World) : Prop :=
  (e = .returned (.tuple #[]) ∧ RL [b, bm, br, bk] w w' ∧ ∃ (rest : List UInt8) (m : M) (ruled kind : Bool), RdAt w' b B rest ∧ BoxM w' bm (mcs m) ∧ BoxM w' br #[.bool ruled] ∧ BoxM w' bk #[.bool kind] ∧ (kind = true → Tells w.heap.size w' m s rest))
  ∨ (e = shortP ∧ RL [b, bm, br, bk] w w')
theorem clo_no {b bm br bk : Nat} {w w' : World} {s : List UInt8} {e : Ending} (h1 : e = shortP) (h2 : RL [b, bm, br, bk] w w') : CloP B b bm br bk w s e w' := .inr ⟨h1, h2⟩
theorem attrs_rk {W W2 : World} {a0 : Option Addr} {l : List A} {L : List Nat} (h : Attrs W a0 l) (hk : RL L W W2) (hb : ∀ a, a0 = some a → a.block ∉ L) : Attrs W2 a0 l :=
  attrs_keep h (fun a e p hp hlt => World.cell?_of_block (w := W) (hk.block _ hlt (by rw [hp]; exact hb a e)))
theorem conds_rl {W W2 : World} {a0 : Option Addr} {l : List C} {L : List Nat} (h : Conds W a0 l) (hk : RL L W W2) (hb : ∀ a, a0 = some a → a.block ∉ L) : Conds W2 a0 l :=
  conds_keep h (fun a e p hp hlt => World.cell?_of_block (w := W) (hk.block _ hlt (by rw [hp]; exact hb a e)))
/-- what lies where the closure begins -/
structure CloH (B b bm br bk : Nat) (w : World) (s : List UInt8) : Prop where
  h : RdAt w b B s
  hm : BoxM w bm msgZ
  hr : BoxM w br #[.bool false]
  hk : BoxM w bk #[.bool true]
  q1 : B ≤ bm
  q2 : B ≤ br
  q3 : B ≤ bk
  n1 : bm ≠ b
  n2 : br ≠ b
  n3 : bk ≠ b
  n4 : bm ≠ br
  n5 : bm ≠ bk
  n6 : br ≠ bk
theorem i64of_wrap (x : Nat) : i64of x = wrap64 (x : Int) := by
  unfold i64of wrap64
  rw [IntKind.wrap_i64]
theorem mem4 {b bm br bk : Nat} : b ∈ [b, bm, br, bk] ∧ bm ∈ [b, bm, br, bk] ∧ br ∈ [b, bm, br, bk] ∧ bk ∈ [b, bm, br, bk] := by simp
set_option maxRecDepth 20000 in
set_option maxHeartbeats 4000000 in
theorem clo_nil (b bm br bk : Nat) (w : World) (h : RdAt w b B []) : Calls Try.prog 20 #[.pointer (some ⟨b, 0, none⟩), .pointer (some ⟨bm, 0, none⟩), .pointer (some ⟨br, 0, none⟩), .pointer (some ⟨bk, 0, none⟩)] w fun e w' => CloP B b bm br bk w [] e w' := by
  have HH := Lib.hid h; clear h
  go_enter Try.func20, Try.ntmps20
  go_wp2_with (first | (go_at_call 21; refine (rbyte_any b [] w HH.out).mono ?_; rintro e w1 (⟨c, t, hd, rfl, hr, hk⟩ | ⟨hd, rfl, hk⟩)) | fail)
  exact ⟨rfl, clo_no rfl (rl_rk hk mem4.1)⟩
set_option maxRecDepth 20000 in
set_option maxHeartbeats 4000000 in
theorem clo_other (b bm br bk : Nat) (c : UInt8) (k : Int) (t s : List UInt8) (w : World) (hs : s = c :: t) (hc : (c.toNat : Int) = k) (k0 : (k == 0) = false) (k1 : (k == 1) = false) (k2 : (k == 2) = false) (k3 : (k == 3) = false) (H : CloH B b bm br bk w s) :
    Calls Try.prog 20 #[.pointer (some ⟨b, 0, none⟩), .pointer (some ⟨bm, 0, none⟩), .pointer (some ⟨br, 0, none⟩), .pointer (some ⟨bk, 0, none⟩)] w fun e w' => CloP B b bm br bk w s e w' := by
  subst hs
  (obtain ⟨h, hm, hr, hk, q1, q2, q3, n1, n2, n3, n4, n5, n6⟩ := H; have HH := Lib.hid h; have HM := Lib.hid hm; have HR := Lib.hid hr; have HK := Lib.hid hk; (have hbml := hm.lt); clear h hm hr hk)
  go_enter Try.func20, Try.ntmps20
  go_wp2_with (first | (go_at_call 21; (with_reducible refine (rbyte_any b (c :: t) w HH.out).mono ?_); rintro e w1 h1; obtain ⟨rfl, hr1, hk1⟩ := took_some h1; have HM1 := Lib.hid (HM.out.rk hk1 n1); have HR1 := Lib.hid (HR.out.rk hk1 n2); have HK1 := Lib.hid (HK.out.rk hk1 n3); have HL1 := Lib.hid (rl_rk hk1 (mem4 (b := b) (bm := bm) (br := br) (bk := bk)).1); have HB2 := Lib.hid (rd_near (u := .int .i64 k) (o := 0) hr1 q1 n1); have HM2 := Lib.hid (HM1.out.set (i := 0) (u := .int .i64 k) (by decide)); have HR2 := Lib.hid (HR1.out.other (q := bm) (o := 0) (u := .int .i64 k) n4.symm); have HK2 := Lib.hid (HK1.out.other (q := bm) (o := 0) (u := .int .i64 k) n5.symm); have HL2 := Lib.hid (rl_set (q := bm) (o := 0) (u := .int .i64 k) HL1.out mem4.2.1); have x0 : w1.cell? ⟨bm, 0, none⟩ = some (.int .i64 0) := HM1.out.c 0 (by decide); have xz := HM1.out.z 0; have zk : w1.cell? ⟨bk, 0, none⟩ = some (.bool true) := HK1.out.c 0 (by decide); have zz := HK1.out.z 0; clear h1 hr1 hk1) | fail)
  (first | go_end0 | refine bodyPost_ret (results_none rfl _ _ _) rfl ?_)
  refine .inl ⟨rfl, rl_set HL2.out mem4.2.2.2, t, ⟨k, 0, ⟨⟨0, 0, [], 0⟩, 0, [], none, 0, 0, []⟩, [], none, 0, 0, [], none, 0, 0, 0, [], 0⟩, false, false, rd_near HB2.out q3 n3, HM2.out.other n5, HR2.out.other n6, HK2.out.set (i := 0) (by decide), fun h => by cases h⟩
set_option maxRecDepth 20000 in
set_option maxHeartbeats 4000000 in
theorem clo_filter (b bm br bk : Nat) (c : UInt8) (k : Int) (t s : List UInt8) (w : World) (hs : s = c :: t) (hc : (c.toNat : Int) = k) (k0 : (k == 0) = false) (k12 : (k == 1) = true ∨ ((k == 1) = false ∧ (k == 2) = true)) (H : CloH B b bm br bk w s) :
    Calls Try.prog 20 #[.pointer (some ⟨b, 0, none⟩), .pointer (some ⟨bm, 0, none⟩), .pointer (some ⟨br, 0, none⟩), .pointer (some ⟨bk, 0, none⟩)] w fun e w' => CloP B b bm br bk w s e w' := by
  subst hs
  (obtain ⟨h, hm, hr, hk, q1, q2, q3, n1, n2, n3, n4, n5, n6⟩ := H; have HH := Lib.hid h; have HM := Lib.hid hm; have HR := Lib.hid hr; have HK := Lib.hid hk; (have hbml := hm.lt); clear h hm hr hk)
  have hk12 : k = 1 ∨ k = 2 := by
    rcases k12 with h | ⟨_, h⟩
    · exact .inl (by simpa using h)
    · exact .inr (by simpa using h)
  rcases k12 with k1 | ⟨k1, k2⟩
  all_goals
    go_enter Try.func20, Try.ntmps20
    go_wp2_with (first | (go_at_call 21; (with_reducible refine (rbyte_any b (c :: t) w HH.out).mono ?_); rintro e w1 h1; obtain ⟨rfl, hr1, hk1⟩ := took_some h1; have HM1 := Lib.hid (HM.out.rk hk1 n1); have HR1 := Lib.hid (HR.out.rk hk1 n2); have HK1 := Lib.hid (HK.out.rk hk1 n3); have HL1 := Lib.hid (rl_rk hk1 (mem4 (b := b) (bm := bm) (br := br) (bk := bk)).1); have HB2 := Lib.hid (rd_near (u := .int .i64 k) (o := 0) hr1 q1 n1); have HM2 := Lib.hid (HM1.out.set (i := 0) (u := .int .i64 k) (by decide)); have HR2 := Lib.hid (HR1.out.other (q := bm) (o := 0) (u := .int .i64 k) n4.symm); have HK2 := Lib.hid (HK1.out.other (q := bm) (o := 0) (u := .int .i64 k) n5.symm); have HL2 := Lib.hid (rl_set (q := bm) (o := 0) (u := .int .i64 k) HL1.out mem4.2.1); have x0 : w1.cell? ⟨bm, 0, none⟩ = some (.int .i64 0) := HM1.out.c 0 (by decide); have xz := HM1.out.z 0; have zk : w1.cell? ⟨bk, 0, none⟩ = some (.bool true) := HK1.out.c 0 (by decide); have zz := HK1.out.z 0; clear h1 hr1 hk1) | (go_at_call 23; refine (rfilter_any b t _ HB2.out).mono ?_; rintro e w3 (⟨sf, l, rest, c0, cap, hd, rfl, hcap, hcs, hbl, hcn, hr3, hk3⟩ | ⟨hd, rfl, hk3⟩); (have HM3 := Lib.hid (HM2.out.rk hk3 n1); have HR3 := Lib.hid (HR2.out.rk hk3 n2); have HK3 := Lib.hid (HK2.out.rk hk3 n3); have HL3 := Lib.hid (HL2.out.trans (rl_rk hk3 mem4.1)); have y10 : w3.cell? ⟨bm, 10, none⟩ = some (.string ⟨#[]⟩) := HM3.out.c 10 (by simp only [Array.size_setIfInBounds]; decide); have y11 : w3.cell? ⟨bm, 11, none⟩ = some (.slice none 0 0) := HM3.out.c 11 (by simp only [Array.size_setIfInBounds]; decide); have yz := HM3.out.z)) | fail)
    rotate_left
    · exact ⟨rfl, clo_no rfl (HL2.out.trans (rl_rk hk3 mem4.1))⟩
    (first | go_end0 | refine bodyPost_ret (results_none rfl _ _ _) rfl ?_)
    have hsz : w.heap.size ≤ (w1.setCell ⟨bm, 0, none⟩ (.int .i64 k)).heap.size := HL2.out.size
    have hq : ∀ a, c0 = some a → a.block ≠ bm := fun a e => by have h1 := hbl a e; have h2 := HL2.out.size; omega
    obtain ⟨o1, o2, o3⟩ := conds_small hd
    obtain ⟨o4, o5⟩ := decFilter_enc hd
    refine .inl ⟨rfl, rl_set (rl_set HL3.out mem4.2.1) mem4.2.1, rest, ⟨k, 0, ⟨⟨0, 0, [], 0⟩, 0, [], none, 0, 0, []⟩, sf, c0, l.length, cap, [], none, 0, 0, 0, [], 0⟩, false, true, rd_near (rd_near hr3 q1 n1) q1 n1, (HM3.out.set (i := 10) (u := .string ⟨sf.toArray⟩) (by simp only [Array.size_setIfInBounds]; decide)).set (i := 11) (u := .slice c0 l.length cap) (by simp only [Array.size_setIfInBounds]; decide), (HR3.out.other n4.symm).other n4.symm, (HK3.out.other n5.symm).other n5.symm, fun _ => .inr (.inl ⟨hk12, l, ?_, rfl, fun a e => Nat.le_trans hsz (hbl a e), ?_, o2, o3, o5, o1⟩)⟩
    · exact conds_keep hcs (fun a e p hp _ => (World.cell?_setCell_other _ _ _ _ (by intro e2; have := hq a e; rw [← e2] at hp; exact this hp.symm)).trans (World.cell?_setCell_other _ _ _ _ (by intro e2; have := hq a e; rw [← e2] at hp; exact this hp.symm)))
    · show c :: t = [byteOf k] ++ encFilter sf l ++ rest
      rw [o4, ← hc, byteOf_nat]; rfl
set_option maxRecDepth 20000 in
set_option maxHeartbeats 4000000 in
theorem clo_event (b bm br bk : Nat) (c : UInt8) (k : Int) (t s : List UInt8) (w : World) (hs : s = c :: t) (hc : (c.toNat : Int) = k) (k0 : (k == 0) = false) (k1 : (k == 1) = false) (k2 : (k == 2) = false) (k3 : (k == 3) = true) (H : CloH B b bm br bk w s) :
    Calls Try.prog 20 #[.pointer (some ⟨b, 0, none⟩), .pointer (some ⟨bm, 0, none⟩), .pointer (some ⟨br, 0, none⟩), .pointer (some ⟨bk, 0, none⟩)] w fun e w' => CloP B b bm br bk w s e w' := by
  subst hs
  (obtain ⟨h, hm, hr, hk, q1, q2, q3, n1, n2, n3, n4, n5, n6⟩ := H; have HH := Lib.hid h; have HM := Lib.hid hm; have HR := Lib.hid hr; have HK := Lib.hid hk; (have hbml := hm.lt); clear h hm hr hk)
  go_enter Try.func20, Try.ntmps20
  go_wp2_with (first
    | (go_at_call 26; (with_reducible refine (revent_any b t5 w5 HB5.out).mono ?_); rintro e w6 (⟨es, l, rest, e0, cap, hd6, rfl, hcap, hcs, hbl, hcn, hr6, hk6⟩ | ⟨hd6, rfl, hk6⟩); (all_goals (have HL6 := Lib.hid (HL5.out.trans (rl_rk hk6 (mem4 (b := b) (bm := bm) (br := br) (bk := bk)).1)))); (have HM6 := Lib.hid (HM5.out.rk hk6 n1); have HR6 := Lib.hid (HR5.out.rk hk6 n2); have HK6 := Lib.hid (HK5.out.rk hk6 n3); have y12 : w6.cell? ⟨bm, 12, none⟩ = some (.string ⟨#[]⟩) := HM6.out.c 12 (by simp only [Array.size_setIfInBounds]; decide); have y13 : w6.cell? ⟨bm, 13, none⟩ = some (.slice none 0 0) := HM6.out.c 13 (by simp only [Array.size_setIfInBounds]; decide); have y14 : w6.cell? ⟨bm, 14, none⟩ = some (.int .i64 0) := HM6.out.c 14 (by simp only [Array.size_setIfInBounds]; decide); have y15 : w6.cell? ⟨bm, 15, none⟩ = some (.string ⟨#[]⟩) := HM6.out.c 15 (by simp only [Array.size_setIfInBounds]; decide); have y16 : w6.cell? ⟨bm, 16, none⟩ = some (.int .i64 0) := HM6.out.c 16 (by simp only [Array.size_setIfInBounds]; decide); have yz := HM6.out.z))
    | (go_at_call 25; (with_reducible refine (rlong_any b t4 w4 HB4.out).mono ?_); rintro e w5 (⟨vr, t5, hd5, rfl, hr5, hk5⟩ | ⟨hd5, rfl, hk5⟩); (all_goals (have HL5 := Lib.hid (HL4.out.trans (rl_rk hk5 (mem4 (b := b) (bm := bm) (br := br) (bk := bk)).1)))); (have HM5 := Lib.hid (HM4.out.rk hk5 n1); have HR5 := Lib.hid (HR4.out.rk hk5 n2); have HK5 := Lib.hid (HK4.out.rk hk5 n3); have HB5 := Lib.hid hr5; clear hr5 hk5))
    | (go_at_call 25; (with_reducible refine (rlong_any b t3 w3 HB3.out).mono ?_); rintro e w4 (⟨sr, t4, hd4, rfl, hr4, hk4⟩ | ⟨hd4, rfl, hk4⟩); (all_goals (have HL4 := Lib.hid (HL3.out.trans (rl_rk hk4 (mem4 (b := b) (bm := bm) (br := br) (bk := bk)).1)))); (have HM4 := Lib.hid (HM3.out.rk hk4 n1); have HR4 := Lib.hid (HR3.out.rk hk4 n2); have HK4 := Lib.hid (HK3.out.rk hk4 n3); have HB4 := Lib.hid hr4; clear hr4 hk4))
    | (go_at_call 24; (refine (rtext_any b t _ HB2.out).mono ?_); rintro e w3 (⟨org, t3, hd3, rfl, hr3, hk3⟩ | ⟨hd3, rfl, hk3⟩); (all_goals (have HL3 := Lib.hid (HL2.out.trans (rl_rk hk3 (mem4 (b := b) (bm := bm) (br := br) (bk := bk)).1)))); (have HM3 := Lib.hid (HM2.out.rk hk3 n1); have HR3 := Lib.hid (HR2.out.rk hk3 n2); have HK3 := Lib.hid (HK2.out.rk hk3 n3); have HB3 := Lib.hid hr3; clear hr3 hk3))
    | (go_at_call 21; (with_reducible refine (rbyte_any b (c :: t) w HH.out).mono ?_); rintro e w1 h1; obtain ⟨rfl, hr1, hk1⟩ := took_some h1; have HM1 := Lib.hid (HM.out.rk hk1 n1); have HR1 := Lib.hid (HR.out.rk hk1 n2); have HK1 := Lib.hid (HK.out.rk hk1 n3); have HL1 := Lib.hid (rl_rk hk1 (mem4 (b := b) (bm := bm) (br := br) (bk := bk)).1); have HB2 := Lib.hid (rd_near (u := .int .i64 k) (o := 0) hr1 q1 n1); have HM2 := Lib.hid (HM1.out.set (i := 0) (u := .int .i64 k) (by decide)); have HR2 := Lib.hid (HR1.out.other (q := bm) (o := 0) (u := .int .i64 k) n4.symm); have HK2 := Lib.hid (HK1.out.other (q := bm) (o := 0) (u := .int .i64 k) n5.symm); have HL2 := Lib.hid (rl_set (q := bm) (o := 0) (u := .int .i64 k) HL1.out mem4.2.1); have x0 : w1.cell? ⟨bm, 0, none⟩ = some (.int .i64 0) := HM1.out.c 0 (by decide); have xz := HM1.out.z 0; have zk : w1.cell? ⟨bk, 0, none⟩ = some (.bool true) := HK1.out.c 0 (by decide); have zz := HK1.out.z 0; clear h1 hr1 hk1) | fail)
  all_goals first | (exact ⟨rfl, clo_no rfl (by assumption : Hid (RL [b, bm, br, bk] w _)).out⟩) | skip
  (first | go_end0 | refine bodyPost_ret (results_none rfl _ _ _) rfl ?_)
  have hsz5 : w.heap.size ≤ w5.heap.size := HL5.out.size
  have hq : ∀ a, e0 = some a → a.block ≠ bm := fun a e => by have h1 := hbl a e; omega
  obtain ⟨o2, o3⟩ := attrs_num hd6
  obtain ⟨o4, o5, _⟩ := decEvent_enc hd6
  obtain ⟨p3, r3⟩ := decText_enc hd3
  obtain ⟨p4, r4⟩ := decLong_enc hd4
  obtain ⟨p5, r5⟩ := decLong_enc hd5
  have hL := rl_set (rl_set (rl_set (rl_set (rl_set HL6.out (mem4.2.1 : bm ∈ [b, bm, br, bk]) (o := 15) (u := .string ⟨org.toArray⟩)) mem4.2.1 (o := 16) (u := .int .i64 (wrap64 (sr : Int)))) mem4.2.1 (o := 14) (u := .int .i64 (wrap64 (vr : Int)))) mem4.2.1 (o := 12) (u := .string ⟨es.toArray⟩)) mem4.2.1 (o := 13) (u := .slice e0 l.length cap)
  have hB := rd_near (rd_near (rd_near (rd_near (rd_near hr6 q1 n1 (o := 15) (u := .string ⟨org.toArray⟩)) q1 n1 (o := 16) (u := .int .i64 (wrap64 (sr : Int)))) q1 n1 (o := 14) (u := .int .i64 (wrap64 (vr : Int)))) q1 n1 (o := 12) (u := .string ⟨es.toArray⟩)) q1 n1 (o := 13) (u := .slice e0 l.length cap)
  have hMM := ((((HM6.out.set (i := 15) (u := .string ⟨org.toArray⟩) (by simp only [Array.size_setIfInBounds]; decide)).set (i := 16) (u := .int .i64 (wrap64 (sr : Int))) (by simp only [Array.size_setIfInBounds]; decide)).set (i := 14) (u := .int .i64 (wrap64 (vr : Int))) (by simp only [Array.size_setIfInBounds]; decide)).set (i := 12) (u := .string ⟨es.toArray⟩) (by simp only [Array.size_setIfInBounds]; decide)).set (i := 13) (u := .slice e0 l.length cap) (by simp only [Array.size_setIfInBounds]; decide)
  have hRR := ((((HR6.out.other (q := bm) (o := 15) (u := .string ⟨org.toArray⟩) n4.symm).other (q := bm) (o := 16) (u := .int .i64 (wrap64 (sr : Int))) n4.symm).other (q := bm) (o := 14) (u := .int .i64 (wrap64 (vr : Int))) n4.symm).other (q := bm) (o := 12) (u := .string ⟨es.toArray⟩) n4.symm).other (q := bm) (o := 13) (u := .slice e0 l.length cap) n4.symm
  have hKK := ((((HK6.out.other (q := bm) (o := 15) (u := .string ⟨org.toArray⟩) n5.symm).other (q := bm) (o := 16) (u := .int .i64 (wrap64 (sr : Int))) n5.symm).other (q := bm) (o := 14) (u := .int .i64 (wrap64 (vr : Int))) n5.symm).other (q := bm) (o := 12) (u := .string ⟨es.toArray⟩) n5.symm).other (q := bm) (o := 13) (u := .slice e0 l.length cap) n5.symm
  have hAA : Attrs (((((w6.setCell ⟨bm, 15, none⟩ (.string ⟨org.toArray⟩)).setCell ⟨bm, 16, none⟩ (.int .i64 (wrap64 (sr : Int)))).setCell ⟨bm, 14, none⟩ (.int .i64 (wrap64 (vr : Int)))).setCell ⟨bm, 12, none⟩ (.string ⟨es.toArray⟩)).setCell ⟨bm, 13, none⟩ (.slice e0 l.length cap)) e0 l := by
    have k : ∀ (W : World) (o : Nat) (u : Value), Attrs W e0 l → Attrs (W.setCell ⟨bm, o, none⟩ u) e0 l := fun W o u h => attrs_keep h (fun a e p hp _ => World.cell?_setCell_other _ _ _ _ (by intro e2; have := hq a e; rw [← e2] at hp; exact this hp.symm))
    exact k _ _ _ (k _ _ _ (k _ _ _ (k _ _ _ (k _ _ _ hcs))))
  generalize World.setCell (World.setCell _ _ _) _ _ = W9 at *
  refine .inl ⟨rfl, hL, rest, ⟨k, 0, ⟨⟨0, 0, [], 0⟩, 0, [], none, 0, 0, []⟩, [], none, 0, 0, es, e0, l.length, cap, wrap64 (vr : Int), org, wrap64 (sr : Int)⟩, false, true, hB, hMM, hRR, hKK, fun _ => .inr (.inr ⟨(by simpa using k3 : k = 3), l, hAA, rfl, fun a e => Nat.le_trans hsz5 (hbl a e), ?_, o2, o3, o5, r3⟩)⟩
  show c :: t = [byteOf k] ++ encText org ++ encLong (u64of (wrap64 (sr : Int))) ++ encLong (u64of (wrap64 (vr : Int))) ++ encEvent es l ++ rest
  rw [← i64of_wrap, ← i64of_wrap, u64_i64 r4, u64_i64 r5, p3, p4, p5, o4, ← hc, byteOf_nat]
  simp
set_option maxRecDepth 20000 in
set_option maxHeartbeats 1000000 in
theorem clo_policy (b bm br bk : Nat) (c : UInt8) (k : Int) (t s : List UInt8) (w : World) (hs : s = c :: t) (hc : (c.toNat : Int) = k) (k0 : (k == 0) = true) (H : CloH B b bm br bk w s) :
    Calls Try.prog 20 #[.pointer (some ⟨b, 0, none⟩), .pointer (some ⟨bm, 0, none⟩), .pointer (some ⟨br, 0, none⟩), .pointer (some ⟨bk, 0, none⟩)] w fun e w' => CloP B b bm br bk w s e w' := by
  subst hs
  (obtain ⟨h, hm, hr, hk, q1, q2, q3, n1, n2, n3, n4, n5, n6⟩ := H; have HH := Lib.hid h; have HM := Lib.hid hm; have HR := Lib.hid hr; have HK := Lib.hid hk; (have hbml := hm.lt); clear h hm hr hk)
  go_enter Try.func20, Try.ntmps20
  go_wp2_with (first
    | (go_at_call 22; (with_reducible refine (trule_any b t3 _ HB4.out).mono ?_); rintro e w6 (⟨d, rest, c0, cap, hd6, rfl, hcap, hcs, hbl, hcn, hr6, hk6⟩ | ⟨rfl, hk6⟩); (all_goals (have HL6 := Lib.hid (HL4.out.trans (rl_rk hk6 (mem4 (b := b) (bm := bm) (br := br) (bk := bk)).1)))); (have HM6 := Lib.hid (HM4.out.rk hk6 n1); have HR6 := Lib.hid (HR4.out.rk hk6 n2); have HK6 := Lib.hid (HK4.out.rk hk6 n3); have y2 : w6.cell? ⟨bm, 2, none⟩ = some (.int .i64 0) := HM6.out.c 2 (by simp only [Array.size_setIfInBounds]; decide); have y3 : w6.cell? ⟨bm, 3, none⟩ = some (.int .i64 0) := HM6.out.c 3 (by simp only [Array.size_setIfInBounds]; decide); have y4 : w6.cell? ⟨bm, 4, none⟩ = some (.string ⟨#[]⟩) := HM6.out.c 4 (by simp only [Array.size_setIfInBounds]; decide); have y5 : w6.cell? ⟨bm, 5, none⟩ = some (.int .i64 0) := HM6.out.c 5 (by simp only [Array.size_setIfInBounds]; decide); have y6 : w6.cell? ⟨bm, 6, none⟩ = some (.string ⟨#[]⟩) := HM6.out.c 6 (by simp only [Array.size_setIfInBounds]; decide); have y7 : w6.cell? ⟨bm, 7, none⟩ = some (.slice none 0 0) := HM6.out.c 7 (by simp only [Array.size_setIfInBounds]; decide); have y8 : w6.cell? ⟨bm, 8, none⟩ = some (.string ⟨#[]⟩) := HM6.out.c 8 (by simp only [Array.size_setIfInBounds]; decide); have y9 : w6.cell? ⟨bm, 9, none⟩ = some (.int .i64 0) := HM6.out.c 9 (by simp only [Array.size_setIfInBounds]; decide); have yz := HM6.out.z; have yr : w6.cell? ⟨br, 0, none⟩ = some (.bool false) := HR6.out.c 0 (by decide); have yrz := HR6.out.z 0))
    | (go_at_call 21; (refine (rbyte_any b t _ HB2.out).mono ?_); rintro e w3 (⟨at', t3, hd3, rfl, hr3, hk3⟩ | ⟨hd3, rfl, hk3⟩); (all_goals (have HL3 := Lib.hid (HL2.out.trans (rl_rk hk3 (mem4 (b := b) (bm := bm) (br := br) (bk := bk)).1)))); (have HM3 := Lib.hid (HM2.out.rk hk3 n1); have HR3 := Lib.hid (HR2.out.rk hk3 n2); have HK3 := Lib.hid (HK2.out.rk hk3 n3); have x1 : w3.cell? ⟨bm, 1, none⟩ = some (.int .i64 0) := HM3.out.c 1 (by simp only [Array.size_setIfInBounds]; decide); have x1z := HM3.out.z 1; have HB4 := Lib.hid (rd_near (u := .int .i64 (at'.toNat : Int)) (o := 1) hr3 q1 n1); have HM4 := Lib.hid (HM3.out.set (i := 1) (u := .int .i64 (at'.toNat : Int)) (by simp only [Array.size_setIfInBounds]; decide)); have HR4 := Lib.hid (HR3.out.other (q := bm) (o := 1) (u := .int .i64 (at'.toNat : Int)) n4.symm); have HK4 := Lib.hid (HK3.out.other (q := bm) (o := 1) (u := .int .i64 (at'.toNat : Int)) n5.symm); have HL4 := Lib.hid (rl_set (q := bm) (o := 1) (u := .int .i64 (at'.toNat : Int)) HL3.out mem4.2.1); clear hr3 hk3))
    | (go_at_call 21; (with_reducible refine (rbyte_any b (c :: t) w HH.out).mono ?_); rintro e w1 h1; obtain ⟨rfl, hr1, hk1⟩ := took_some h1; have HM1 := Lib.hid (HM.out.rk hk1 n1); have HR1 := Lib.hid (HR.out.rk hk1 n2); have HK1 := Lib.hid (HK.out.rk hk1 n3); have HL1 := Lib.hid (rl_rk hk1 (mem4 (b := b) (bm := bm) (br := br) (bk := bk)).1); have HB2 := Lib.hid (rd_near (u := .int .i64 k) (o := 0) hr1 q1 n1); have HM2 := Lib.hid (HM1.out.set (i := 0) (u := .int .i64 k) (by decide)); have HR2 := Lib.hid (HR1.out.other (q := bm) (o := 0) (u := .int .i64 k) n4.symm); have HK2 := Lib.hid (HK1.out.other (q := bm) (o := 0) (u := .int .i64 k) n5.symm); have HL2 := Lib.hid (rl_set (q := bm) (o := 0) (u := .int .i64 k) HL1.out mem4.2.1); have x0 : w1.cell? ⟨bm, 0, none⟩ = some (.int .i64 0) := HM1.out.c 0 (by decide); have xz := HM1.out.z 0; have zk : w1.cell? ⟨bk, 0, none⟩ = some (.bool true) := HK1.out.c 0 (by decide); have zz := HK1.out.z 0; clear h1 hr1 hk1) | fail)
  all_goals first | (exact ⟨rfl, clo_no rfl (by assumption : Hid (RL [b, bm, br, bk] w _)).out⟩) | skip
  generalize hR : d.r c0 cap = R at *
  generalize hAC : Pol.aclB R d.l = ac at *
  (first | go_end0 | refine bodyPost_ret (results_none rfl _ _ _) rfl ?_)
  have hsz4 : w.heap.size ≤ (w3.setCell ⟨bm, 1, none⟩ (.int .i64 (at'.toNat : Int))).heap.size := HL4.out.size
  have hq : ∀ a, c0 = some a → a.block ≠ bm ∧ a.block ≠ br := fun a e => by have h1 := hbl a e; have h2 := HR4.out.lt; exact ⟨by omega, by omega⟩
  have kL : ∀ (W : World) (q o : Nat) (u : Value), q ∈ [b, bm, br, bk] → RL [b, bm, br, bk] w W → RL [b, bm, br, bk] w (W.setCell ⟨q, o, none⟩ u) := fun W q o u hq h => rl_set h hq
  have kB : ∀ (W : World) (q o : Nat) (u : Value), B ≤ q → q ≠ b → RdAt W b B rest → RdAt (W.setCell ⟨q, o, none⟩ u) b B rest := fun W q o u h1 h2 h => rd_near h h1 h2
  have kK : ∀ (W : World) (q o : Nat) (u : Value), bk ≠ q → BoxM W bk #[.bool true] → BoxM (W.setCell ⟨q, o, none⟩ u) bk #[.bool true] := fun W q o u h1 h => h.other h1
  have kR : ∀ (W : World) (q o : Nat) (u : Value), br ≠ q → BoxM W br #[.bool false] → BoxM (W.setCell ⟨q, o, none⟩ u) br #[.bool false] := fun W q o u h1 h => h.other h1
  have kC : ∀ (W : World) (q o : Nat) (u : Value), (∀ a, c0 = some a → a.block ≠ q) → Conds W c0 d.l → Conds (W.setCell ⟨q, o, none⟩ u) c0 d.l := fun W q o u hq h => conds_keep h (fun a e p hp _ => World.cell?_setCell_other _ _ _ _ (by intro e2; have := hq a e; rw [← e2] at hp; exact this hp.symm))
  have hL : RL [b, bm, br, bk] w (((((((((w6.setCell ⟨bm, 2, none⟩ (.int .i64 R.k.kind)).setCell ⟨bm, 3, none⟩ (.int .i64 R.k.tenant)).setCell ⟨bm, 4, none⟩ (.string ⟨R.k.who.toArray⟩)).setCell ⟨bm, 5, none⟩ (.int .i64 R.br)).setCell ⟨bm, 6, none⟩ (.string ⟨R.sc.toArray⟩)).setCell ⟨bm, 7, none⟩ (.slice R.c0 R.cn R.cc)).setCell ⟨bm, 8, none⟩ (.string ⟨R.nm.toArray⟩)).setCell ⟨bm, 9, none⟩ (.int .i64 R.k.pl)).setCell ⟨br, 0, none⟩ (.bool ac)) := by repeat (first | with_reducible exact HL6.out | refine kL _ _ _ _ (by simp) ?_)
  have hB : RdAt (((((((((w6.setCell ⟨bm, 2, none⟩ (.int .i64 R.k.kind)).setCell ⟨bm, 3, none⟩ (.int .i64 R.k.tenant)).setCell ⟨bm, 4, none⟩ (.string ⟨R.k.who.toArray⟩)).setCell ⟨bm, 5, none⟩ (.int .i64 R.br)).setCell ⟨bm, 6, none⟩ (.string ⟨R.sc.toArray⟩)).setCell ⟨bm, 7, none⟩ (.slice R.c0 R.cn R.cc)).setCell ⟨bm, 8, none⟩ (.string ⟨R.nm.toArray⟩)).setCell ⟨bm, 9, none⟩ (.int .i64 R.k.pl)).setCell ⟨br, 0, none⟩ (.bool ac)) b B rest := by repeat (first | with_reducible exact hr6 | refine kB _ _ _ _ (by assumption) (by assumption) ?_)
  have hKK : BoxM (((((((((w6.setCell ⟨bm, 2, none⟩ (.int .i64 R.k.kind)).setCell ⟨bm, 3, none⟩ (.int .i64 R.k.tenant)).setCell ⟨bm, 4, none⟩ (.string ⟨R.k.who.toArray⟩)).setCell ⟨bm, 5, none⟩ (.int .i64 R.br)).setCell ⟨bm, 6, none⟩ (.string ⟨R.sc.toArray⟩)).setCell ⟨bm, 7, none⟩ (.slice R.c0 R.cn R.cc)).setCell ⟨bm, 8, none⟩ (.string ⟨R.nm.toArray⟩)).setCell ⟨bm, 9, none⟩ (.int .i64 R.k.pl)).setCell ⟨br, 0, none⟩ (.bool ac)) bk #[.bool true] := by repeat (first | with_reducible exact HK6.out | refine kK _ _ _ _ (by first | exact n5.symm | exact n6.symm) ?_)
  have hRR : BoxM (((((((((w6.setCell ⟨bm, 2, none⟩ (.int .i64 R.k.kind)).setCell ⟨bm, 3, none⟩ (.int .i64 R.k.tenant)).setCell ⟨bm, 4, none⟩ (.string ⟨R.k.who.toArray⟩)).setCell ⟨bm, 5, none⟩ (.int .i64 R.br)).setCell ⟨bm, 6, none⟩ (.string ⟨R.sc.toArray⟩)).setCell ⟨bm, 7, none⟩ (.slice R.c0 R.cn R.cc)).setCell ⟨bm, 8, none⟩ (.string ⟨R.nm.toArray⟩)).setCell ⟨bm, 9, none⟩ (.int .i64 R.k.pl)).setCell ⟨br, 0, none⟩ (.bool ac)) br #[.bool ac] := by
    refine BoxM.set (i := 0) (u := .bool ac) (cs := #[.bool false]) ?_ (by decide)
    repeat (first | with_reducible exact HR6.out | refine kR _ _ _ _ n4.symm ?_)
  have hCC : Conds (((((((((w6.setCell ⟨bm, 2, none⟩ (.int .i64 R.k.kind)).setCell ⟨bm, 3, none⟩ (.int .i64 R.k.tenant)).setCell ⟨bm, 4, none⟩ (.string ⟨R.k.who.toArray⟩)).setCell ⟨bm, 5, none⟩ (.int .i64 R.br)).setCell ⟨bm, 6, none⟩ (.string ⟨R.sc.toArray⟩)).setCell ⟨bm, 7, none⟩ (.slice R.c0 R.cn R.cc)).setCell ⟨bm, 8, none⟩ (.string ⟨R.nm.toArray⟩)).setCell ⟨bm, 9, none⟩ (.int .i64 R.k.pl)).setCell ⟨br, 0, none⟩ (.bool ac)) c0 d.l := by repeat (first | with_reducible exact hcs | refine kC _ _ _ _ (fun a e => (hq a e).1) ?_ | refine kC _ _ _ _ (fun a e => (hq a e).2) ?_)
  have hMM := ((((((((HM6.out.set (i := 2) (u := .int .i64 R.k.kind) (by simp only [Array.size_setIfInBounds]; decide)).set (i := 3) (u := .int .i64 R.k.tenant) (by simp only [Array.size_setIfInBounds]; decide)).set (i := 4) (u := .string ⟨R.k.who.toArray⟩) (by simp only [Array.size_setIfInBounds]; decide)).set (i := 5) (u := .int .i64 R.br) (by simp only [Array.size_setIfInBounds]; decide)).set (i := 6) (u := .string ⟨R.sc.toArray⟩) (by simp only [Array.size_setIfInBounds]; decide)).set (i := 7) (u := .slice R.c0 R.cn R.cc) (by simp only [Array.size_setIfInBounds]; decide)).set (i := 8) (u := .string ⟨R.nm.toArray⟩) (by simp only [Array.size_setIfInBounds]; decide)).set (i := 9) (u := .int .i64 R.k.pl) (by simp only [Array.size_setIfInBounds]; decide)).other (q := br) (o := 0) (u := .bool ac) n4
  generalize World.setCell (World.setCell _ _ _) _ _ = W9 at *
  simp only [msgZ, msgL, List.setIfInBounds_toArray, List.set_cons_succ, List.set_cons_zero] at hMM
  have hRc : R.c0 = c0 := by rw [← hR]; rfl
  have hRn : R.cn = d.l.length := by rw [← hR]; rfl
  refine .inl ⟨rfl, hL, rest, ⟨k, at'.toNat, R, [], none, 0, 0, [], none, 0, 0, 0, [], 0⟩, ac, true, hB, hMM, hRR, hKK, fun _ => .inl ⟨(by simpa using k0 : k = 0), d.l, by show Conds W9 R.c0 d.l; rw [hRc]; exact hCC, hRn, fun a e => Nat.le_trans hsz4 (hbl a (by have e' : R.c0 = some a := e; rw [hRc] at e'; exact e')), ?_, hd6.num, hd6.few⟩⟩
  show c :: t = [byteOf k] ++ [byteOf at'.toNat] ++ encRule R d.l ++ rest
  rw [byteOf_zero hc, decByte_enc hd3, hd6.enc c0 cap, hR]
  simp
set_option maxRecDepth 20000 in
theorem clo_any (b bm br bk : Nat) (s : List UInt8) (w : World) (H : CloH B b bm br bk w s) : Calls Try.prog 20 #[.pointer (some ⟨b, 0, none⟩), .pointer (some ⟨bm, 0, none⟩), .pointer (some ⟨br, 0, none⟩), .pointer (some ⟨bk, 0, none⟩)] w fun e w' => CloP B b bm br bk w s e w' := by
  cases s with
  | nil => exact clo_nil b bm br bk w H.h
  | cons c t =>
    cases h0 : ((c.toNat : Int) == 0)
    · cases h1 : ((c.toNat : Int) == 1)
      · cases h2 : ((c.toNat : Int) == 2)
        · cases h3 : ((c.toNat : Int) == 3)
          · exact clo_other b bm br bk c _ t _ w rfl rfl h0 h1 h2 h3 H
          · exact clo_event b bm br bk c _ t _ w rfl rfl h0 h1 h2 h3 H
        · exact clo_filter b bm br bk c _ t _ w rfl rfl h0 (.inr ⟨h1, h2⟩) H
      · exact clo_filter b bm br bk c _ t _ w rfl rfl h0 (.inl h1) H
    · exact clo_policy b bm br bk c _ t _ w rfl rfl h0 H
end Go.Proofs.Ytpbdgbejcdncgaa.Wire
end

section
/- codec.Read's deferred closure: what it does where nothing was thrown, and where 'short' was. -/
namespace Go.Proofs.Ytpbdgbejcdncgaa.Wire
open Go.RowKit Flt Go.Proofs.Ytpbdgbejcdncgaa.Val Go.Lib
variable {B : Nat}
theorem catch_idle (p : Addr) (w : World) :
    CallsD Try.prog 39 #[.pointer (some p)] .returning w fun e u' w' => e = .returned (.tuple #[]) ∧ u' = .returning ∧ w' = w := by
  refine callsD_of_wpS Try.func39 rfl fun c₀ cs hu => ?_
  apply wpS_seq
  apply wpS_region
  simp [wpOpsS, go_sem, recoverD, hu, Try.ntmps39, Exit.thenS]
  refine wpS_of_wp ?_
  rw [show (#[Value.pointer (some p)] ++ (Array.replicate 9 undef).setIfInBounds 3 Value.nilIface) = #[.pointer (some p), undef, undef, undef, .nilIface, undef, undef, undef, undef, undef] from rfl]
  have heq : ∀ w : World, (binOp BinOp.eql 20 .nilIface .nilIface).run Try.prog w = .ok (.bool true) w := fun _ => by kernel_rfl
  go_wp2
  cases c₀
  simp_all [bodyPostS, results, Try.results39]
set_option maxRecDepth 20000 in
theorem catch_short (p : Addr) (v : Value) (older : List PanicEntry) (w : World) (hc : w.cell? p = some v) (hz : w.frozen? p = false) :
    CallsD Try.prog 39 #[.pointer (some p)] (.panicking ({ v := .iface 83 (.agg #[]), recovered := false } :: older)) w fun e u' w' => e = .returned (.tuple #[]) ∧ u' = .panicking ({ v := .iface 83 (.agg #[]), recovered := true } :: older) ∧ ∃ o, w' = (w.alloc o).setCell p (.bool false) := by
  refine callsD_of_wpS Try.func39 rfl fun c₀ cs hu => ?_
  apply wpS_seq
  apply wpS_region
  simp [wpOpsS, go_sem, recoverD, hu, Try.ntmps39, Exit.thenS]
  refine wpS_of_wp ?_
  rw [show (#[Value.pointer (some p)] ++ (Array.replicate 9 undef).setIfInBounds 3 (Value.iface 83 (.agg #[]))) = #[.pointer (some p), undef, undef, undef, .iface 83 (.agg #[]), undef, undef, undef, undef, undef] from rfl]
  have heq : ∀ w : World, (binOp BinOp.eql 20 (.iface 83 (.agg #[])) .nilIface).run Try.prog w = .ok (.bool false) w := fun _ => by kernel_rfl
  have hta : ∀ w : World, (Instr.typeAssert (.iface 83 (.agg #[])) 20 83 true).run Try.prog w = .ok (.tuple #[.agg #[], .bool true]) w := fun _ => by kernel_rfl
  have hlt := World.block_lt_of_cell? _ _ hc
  have hc2 : ∀ o : Obj, (w.alloc o).cell? p = some v := fun o => (World.cell?_alloc_lt w o p hlt).trans hc
  have hz2 : ∀ o : Obj, (w.alloc o).frozen? p = false := fun o => (World.frozen?_alloc_old w o p (Nat.ne_of_lt hlt)).trans hz
  clear hc hz
  go_wp2
  exact ⟨rfl, _, rfl, .tuple #[], by simp [results, Try.results39], rfl, rfl, _, rfl⟩
/-- what codec.Read answers: whether its call ended well, and all was read -/
def ReadP (R : Option (List UInt8) → World → Prop) (p : Nat) (e : Ending) (w' : World) : Prop := ∃ (ok : Bool) (x : Option (List UInt8)) (w1 : World), e = .returned (.bool ok) ∧ R x w1 ∧ (ok = true ↔ x = some []) ∧ RK p w1 w'
theorem readp {R : Option (List UInt8) → World → Prop} {p : Nat} {e : Ending} {w' : World} (ok : Bool) (x : Option (List UInt8)) (w1 : World) (h1 : e = .returned (.bool ok)) (h2 : R x w1) (h3 : ok = true ↔ x = some []) (h4 : RK p w1 w') : ReadP R p e w' := ⟨ok, x, w1, h1, h2, h3, h4⟩
theorem rd_start {w : World} {a0 : Option Addr} {cap : Nat} {s : List UInt8} {T T2 : TypeId} (h : BytesAt w a0 s) (h1 : s.length ≤ cap) (h2 : cap ≤ maxLen) (h3 : a0 = none → cap = 0) (hB : B ≤ w.heap.size) (hb : s ≠ [] → ∀ a, a0 = some a → a.block < B) :
    RdAt ((w.alloc (.cells #[.bool false] T)).alloc (.cells #[.slice a0 s.length cap] T2)) (w.heap.size + 1) B s := by
  refine ⟨⟨a0, cap, ?_, h1, h2, h.below (balloc2 _ _ _), h3, hb⟩, by simp, by omega⟩
  rw [← show (w.alloc (.cells #[.bool false] T)).heap.size = w.heap.size + 1 from by simp]
  exact World.cell?_alloc_at _ _ _ _ rfl
/-- what lies where bytes lie -/
theorem bytes_low {w : World} {a0 : Option Addr} {s : List UInt8} (h : BytesAt w a0 s) : s ≠ [] → ∀ a, a0 = some a → a.block < w.heap.size := fun hne a e => by
  obtain ⟨a2, e2, h4⟩ := h 0 (List.length_pos_iff.2 hne)
  rw [e] at e2
  injection e2 with e2
  subst e2
  have hab : (a.add 0).block = a.block := by unfold Addr.add; split <;> rfl
  have := World.block_lt_of_cell? _ _ h4
  rwa [hab] at this
set_option maxRecDepth 20000 in
set_option maxHeartbeats 4000000 in
theorem read_msg (a0 : Option Addr) (cap : Nat) (s : List UInt8) (p1 p2 p3 : Addr) (w : World) (R : Option (List UInt8) → World → Prop)
    (hc : ∀ W, Below w.heap.size w W → RdAt W (w.heap.size + 1) B s → Calls Try.prog 20 #[.pointer (some ⟨w.heap.size + 1, 0, none⟩), .pointer (some p1), .pointer (some p2), .pointer (some p3)] W fun e w' => (∃ rest, e = .returned (.tuple #[]) ∧ RdAt w' (w.heap.size + 1) B rest ∧ w'.cell? ⟨w.heap.size, 0, none⟩ = W.cell? ⟨w.heap.size, 0, none⟩ ∧ w'.frozen? ⟨w.heap.size, 0, none⟩ = W.frozen? ⟨w.heap.size, 0, none⟩ ∧ R (some rest) w') ∨ (e = shortP ∧ w'.cell? ⟨w.heap.size, 0, none⟩ = W.cell? ⟨w.heap.size, 0, none⟩ ∧ w'.frozen? ⟨w.heap.size, 0, none⟩ = W.frozen? ⟨w.heap.size, 0, none⟩ ∧ R none w'))
    (hby : BytesAt w a0 s) (hcap : s.length ≤ cap) (hcm : cap ≤ maxLen) (hn : a0 = none → cap = 0) (hB : B ≤ w.heap.size) (hlow : s ≠ [] → ∀ a, a0 = some a → a.block < B) :
    Calls Try.prog 19 #[.slice a0 s.length cap, .func (Fn.func 20) #[] #[.pointer (some p1), .pointer (some p2), .pointer (some p3)]] w fun e w' => ReadP R w.heap.size e w' := by
  have hmf : ∀ (fn : Fn) (first cap : Array Value) (w : World), (Instr.makeFunc fn first cap).run Try.prog w = .ok (.func fn first cap) w := fun _ _ _ _ => rfl
  have HC := Lib.hid hc; have HBY := Lib.hid hby; have HN := Lib.hid hn; have HLOW := Lib.hid hlow
  clear hc hby hn hlow
  go_enter_defers Try.func19, Try.ntmps19
  go_wp2_with (first | (go_at_call 20; refine (HC.out _ (balloc2 _ _ _) (rd_start HBY.out hcap hcm HN.out hB HLOW.out)).mono ?_; rintro e w1 (⟨rest, rfl, hr, hcok, hfok, hR⟩ | ⟨rfl, hcok, hfok, hR⟩); (obtain ⟨⟨a1, cap1, hc1, h11, h12, h13, h14, h15⟩, hz1, hB1⟩ := hr); all_goals (have ck : w1.cell? ⟨w.heap.size, 0, none⟩ = some (.bool false) := hcok.trans (by simp)); all_goals (have fk : w1.frozen? ⟨w.heap.size, 0, none⟩ = false := hfok.trans (by simp))) | fail)
  · refine leaves_cons (f := 39) (args := #[.pointer (some ⟨w.heap.size, 0, none⟩)]) (by simp) (by simp [go_sem]) ?_
    refine (catch_idle ⟨w.heap.size, 0, none⟩ _).mono ?_
    rintro e u' w'' ⟨rfl, rfl, rfl⟩
    have hce : (w1.setCell ⟨w.heap.size, 0, none⟩ (.bool ((rest.length : Int) == 0))).cell? ⟨w.heap.size, 0, none⟩ = some (.bool ((rest.length : Int) == 0)) := World.cell?_setCell_same _ _ _ ck
    have hrk := rk_set w.heap.size w1 (.bool ((rest.length : Int) == 0))
    generalize World.setCell w1 _ _ = W9 at *
    have hok : (((rest.length : Int) == 0) = true ↔ some rest = some []) := by
      rw [beq_iff_eq]
      constructor
      · intro e; rw [List.eq_nil_of_length_eq_zero (l := rest) (by omega)]
      · intro e; injection e with e; rw [e]; rfl
    generalize ((rest.length : Int) == 0) = ok at *
    simp [Leaves, settle, results, Try.results19, go_sem, hce]
    exact readp ok (some rest) w1 rfl hR hok hrk
  · refine leaves_cons (f := 39) (args := #[.pointer (some ⟨w.heap.size, 0, none⟩)]) (by simp) (by simp [go_sem]) ?_
    refine (catch_short ⟨w.heap.size, 0, none⟩ _ _ _ ck fk).mono ?_
    rintro e u' w'' ⟨rfl, rfl, o, rfl⟩
    have hlt := World.block_lt_of_cell? _ _ ck
    have hce : ((w1.alloc o).setCell ⟨w.heap.size, 0, none⟩ (.bool false)).cell? ⟨w.heap.size, 0, none⟩ = some (.bool false) := World.cell?_setCell_same _ _ _ ((World.cell?_alloc_lt w1 o _ hlt).trans ck)
    have hrk : RK w.heap.size w1 ((w1.alloc o).setCell ⟨w.heap.size, 0, none⟩ (.bool false)) := (rk_below (balloc w1 o)).trans (rk_set _ _ _)
    generalize World.setCell (World.alloc w1 _) _ _ = W9 at *
    simp [Leaves, settle, results, Try.results19, go_sem, hce]
    exact readp false none w1 rfl hR (by simp) hrk
end Go.Proofs.Ytpbdgbejcdncgaa.Wire
end

section
/- wire.ReadRule's closure, and codec.Read behind it, at any bytes. -/
namespace Go.Proofs.Ytpbdgbejcdncgaa.Wire
open Go.RowKit Flt Go.Proofs.Ytpbdgbejcdncgaa.Val Go.Lib
variable {B : Nat}
attribute [local go_sem] run_store_flt
abbrev rcs (r : Pol.R) : Array Value := #[.int .i64 r.k.kind, .int .i64 r.k.tenant, .string ⟨r.k.who.toArray⟩, .int .i64 r.br, .string ⟨r.sc.toArray⟩, .slice r.c0 r.cn r.cc, .string ⟨r.nm.toArray⟩, .int .i64 r.k.pl]
abbrev ruleZ : Array Value := #[.int .i64 0, .int .i64 0, .string ⟨#[]⟩, .int .i64 0, .string ⟨#[]⟩, .slice none 0 0, .string ⟨#[]⟩, .int .i64 0]
theorem rcs_size (r : Pol.R) : (rcs r).size = 8 := rfl
theorem rcs_one (r : Pol.R) : (rcs r).all (·.oneCell') = true := by
  refine Array.all_eq_true_iff_forall_mem.2 (fun v hv => ?_)
  simp only [List.mem_toArray, List.mem_cons, List.not_mem_nil, or_false] at hv
  rcases hv with rfl | rfl | rfl | rfl | rfl | rfl | rfl | rfl <;> rfl
theorem rule_info : (Try.prog.info? 28).map (·.size) = some 8 := by kernel_rfl
set_option maxRecDepth 20000 in
set_option maxHeartbeats 4000000 in
theorem read_rule (a0 : Option Addr) (cap : Nat) (s : List UInt8) (p1 p2 : Addr) (w : World) (R : Option (List UInt8) → World → Prop)
    (hc : ∀ W, Below w.heap.size w W → RdAt W (w.heap.size + 1) B s → Calls Try.prog 28 #[.pointer (some ⟨w.heap.size + 1, 0, none⟩), .pointer (some p1), .pointer (some p2)] W fun e w' => (∃ rest, e = .returned (.tuple #[]) ∧ RdAt w' (w.heap.size + 1) B rest ∧ w'.cell? ⟨w.heap.size, 0, none⟩ = W.cell? ⟨w.heap.size, 0, none⟩ ∧ w'.frozen? ⟨w.heap.size, 0, none⟩ = W.frozen? ⟨w.heap.size, 0, none⟩ ∧ R (some rest) w') ∨ (e = shortP ∧ w'.cell? ⟨w.heap.size, 0, none⟩ = W.cell? ⟨w.heap.size, 0, none⟩ ∧ w'.frozen? ⟨w.heap.size, 0, none⟩ = W.frozen? ⟨w.heap.size, 0, none⟩ ∧ R none w'))
    (hby : BytesAt w a0 s) (hcap : s.length ≤ cap) (hcm : cap ≤ maxLen) (hn : a0 = none → cap = 0) (hB : B ≤ w.heap.size) (hlow : s ≠ [] → ∀ a, a0 = some a → a.block < B) :
    Calls Try.prog 19 #[.slice a0 s.length cap, .func (Fn.func 28) #[] #[.pointer (some p1), .pointer (some p2)]] w fun e w' => ReadP R w.heap.size e w' := by
  have hmf : ∀ (fn : Fn) (first cap : Array Value) (w : World), (Instr.makeFunc fn first cap).run Try.prog w = .ok (.func fn first cap) w := fun _ _ _ _ => rfl
  have HC := Lib.hid hc; have HBY := Lib.hid hby; have HN := Lib.hid hn; have HLOW := Lib.hid hlow
  clear hc hby hn hlow
  go_enter_defers Try.func19, Try.ntmps19
  go_wp2_with (first | (go_at_call 28; refine (HC.out _ (balloc2 _ _ _) (rd_start HBY.out hcap hcm HN.out hB HLOW.out)).mono ?_; rintro e w1 (⟨rest, rfl, hr, hcok, hfok, hR⟩ | ⟨rfl, hcok, hfok, hR⟩); (obtain ⟨⟨a1, cap1, hc1, h11, h12, h13, h14, h15⟩, hz1, hB1⟩ := hr); all_goals (have ck : w1.cell? ⟨w.heap.size, 0, none⟩ = some (.bool false) := hcok.trans (by simp)); all_goals (have fk : w1.frozen? ⟨w.heap.size, 0, none⟩ = false := hfok.trans (by simp))) | fail)
  · refine leaves_cons (f := 39) (args := #[.pointer (some ⟨w.heap.size, 0, none⟩)]) (by simp) (by simp [go_sem]) ?_
    refine (catch_idle ⟨w.heap.size, 0, none⟩ _).mono ?_
    rintro e u' w'' ⟨rfl, rfl, rfl⟩
    have hce : (w1.setCell ⟨w.heap.size, 0, none⟩ (.bool ((rest.length : Int) == 0))).cell? ⟨w.heap.size, 0, none⟩ = some (.bool ((rest.length : Int) == 0)) := World.cell?_setCell_same _ _ _ ck
    have hrk := rk_set w.heap.size w1 (.bool ((rest.length : Int) == 0))
    generalize World.setCell w1 _ _ = W9 at *
    have hok : (((rest.length : Int) == 0) = true ↔ some rest = some []) := by
      rw [beq_iff_eq]
      constructor
      · intro e; rw [List.eq_nil_of_length_eq_zero (l := rest) (by omega)]
      · intro e; injection e with e; rw [e]; rfl
    generalize ((rest.length : Int) == 0) = ok at *
    simp [Leaves, settle, results, Try.results19, go_sem, hce]
    exact readp ok (some rest) w1 rfl hR hok hrk
  · refine leaves_cons (f := 39) (args := #[.pointer (some ⟨w.heap.size, 0, none⟩)]) (by simp) (by simp [go_sem]) ?_
    refine (catch_short ⟨w.heap.size, 0, none⟩ _ _ _ ck fk).mono ?_
    rintro e u' w'' ⟨rfl, rfl, o, rfl⟩
    have hlt := World.block_lt_of_cell? _ _ ck
    have hce : ((w1.alloc o).setCell ⟨w.heap.size, 0, none⟩ (.bool false)).cell? ⟨w.heap.size, 0, none⟩ = some (.bool false) := World.cell?_setCell_same _ _ _ ((World.cell?_alloc_lt w1 o _ hlt).trans ck)
    have hrk : RK w.heap.size w1 ((w1.alloc o).setCell ⟨w.heap.size, 0, none⟩ (.bool false)) := (rk_below (balloc w1 o)).trans (rk_set _ _ _)
    generalize World.setCell (World.alloc w1 _) _ _ = W9 at *
    simp [Leaves, settle, results, Try.results19, go_sem, hce]
    exact readp false none w1 rfl hR (by simp) hrk
theorem mem3 {b bx br : Nat} : b ∈ [b, bx, br] ∧ bx ∈ [b, bx, br] ∧ br ∈ [b, bx, br] := by simp
/-- what the closure tells -/
def CloR (B b bx br : Nat) (w : World) (s : List UInt8) (e : Ending) (w' : World) : Prop :=
  (e = .returned (.tuple #[]) ∧ RL [b, bx, br] w w' ∧ ∃ (d : DR) (rest : List UInt8) (c0 : Option Addr) (cap : Nat), RuleIs d s rest ∧ RdAt w' b B rest ∧ BoxM w' bx (rcs (d.r c0 cap)) ∧ BoxM w' br #[.bool (Pol.aclB (d.r c0 cap) d.l)] ∧ Conds w' c0 d.l ∧ (∀ a, c0 = some a → w.heap.size ≤ a.block))
  ∨ (e = shortP ∧ RL [b, bx, br] w w')
theorem clor_no {b bx br : Nat} {w w' : World} {s : List UInt8} {e : Ending} (h1 : e = shortP) (h2 : RL [b, bx, br] w w') : CloR B b bx br w s e w' := .inr ⟨h1, h2⟩
set_option maxRecDepth 20000 in
set_option maxHeartbeats 1000000 in
theorem clo_rule (b bx br : Nat) (s : List UInt8) (w : World) (h : RdAt w b B s) (hx : BoxM w bx ruleZ) (hr : BoxM w br #[.bool false]) (q1 : B ≤ bx) (q2 : B ≤ br) (n1 : bx ≠ b) (n2 : br ≠ b) (n4 : bx ≠ br) :
    Calls Try.prog 28 #[.pointer (some ⟨b, 0, none⟩), .pointer (some ⟨bx, 0, none⟩), .pointer (some ⟨br, 0, none⟩)] w fun e w' => CloR B b bx br w s e w' := by
  have hbml := hx.lt
  have hbrl := hr.lt
  have HH := Lib.hid h; have HM := Lib.hid hx; have HR := Lib.hid hr
  clear h hx hr
  go_enter Try.func28, Try.ntmps28
  go_wp2_with (first
    | (go_at_call 22; (with_reducible refine (trule_any b s w HH.out).mono ?_); rintro e w6 (⟨d, rest, c0, cap, hd6, rfl, hcap, hcs, hbl, hcn, hr6, hk6⟩ | ⟨rfl, hk6⟩); (all_goals (have HL6 := Lib.hid (rl_rk hk6 (mem3 (b := b) (bx := bx) (br := br)).1))); (have HM6 := Lib.hid (HM.out.rk hk6 n1); have HR6 := Lib.hid (HR.out.rk hk6 n2); have y0 : w6.cell? ⟨bx, 0, none⟩ = some (.int .i64 0) := HM6.out.c 0 (by simp); have y1 : w6.cell? ⟨bx, 1, none⟩ = some (.int .i64 0) := HM6.out.c 1 (by simp); have y2 : w6.cell? ⟨bx, 2, none⟩ = some (.string ⟨#[]⟩) := HM6.out.c 2 (by simp); have y3 : w6.cell? ⟨bx, 3, none⟩ = some (.int .i64 0) := HM6.out.c 3 (by simp); have y4 : w6.cell? ⟨bx, 4, none⟩ = some (.string ⟨#[]⟩) := HM6.out.c 4 (by simp); have y5 : w6.cell? ⟨bx, 5, none⟩ = some (.slice none 0 0) := HM6.out.c 5 (by simp); have y6 : w6.cell? ⟨bx, 6, none⟩ = some (.string ⟨#[]⟩) := HM6.out.c 6 (by simp); have y7 : w6.cell? ⟨bx, 7, none⟩ = some (.int .i64 0) := HM6.out.c 7 (by simp); have yz := HM6.out.z; have yr : w6.cell? ⟨br, 0, none⟩ = some (.bool false) := HR6.out.c 0 (by decide); have yrz := HR6.out.z 0))
    | fail)
  all_goals first | (exact ⟨rfl, clor_no rfl (by assumption : Hid (RL [b, bx, br] w _)).out⟩) | skip
  generalize hR : d.r c0 cap = R at *
  generalize hAC : Pol.aclB R d.l = ac at *
  (first | go_end0 | refine bodyPost_ret (results_none rfl _ _ _) rfl ?_)
  have hq : ∀ a, c0 = some a → a.block ≠ bx ∧ a.block ≠ br := fun a e => by have h1 := hbl a e; exact ⟨by omega, by omega⟩
  have kL : ∀ (W : World) (q o : Nat) (u : Value), q ∈ [b, bx, br] → RL [b, bx, br] w W → RL [b, bx, br] w (W.setCell ⟨q, o, none⟩ u) := fun W q o u hq h => rl_set h hq
  have kB : ∀ (W : World) (q o : Nat) (u : Value), B ≤ q → q ≠ b → RdAt W b B rest → RdAt (W.setCell ⟨q, o, none⟩ u) b B rest := fun W q o u h1 h2 h => rd_near h h1 h2
  have kR : ∀ (W : World) (q o : Nat) (u : Value), br ≠ q → BoxM W br #[.bool false] → BoxM (W.setCell ⟨q, o, none⟩ u) br #[.bool false] := fun W q o u h1 h => h.other h1
  have kC : ∀ (W : World) (q o : Nat) (u : Value), (∀ a, c0 = some a → a.block ≠ q) → Conds W c0 d.l → Conds (W.setCell ⟨q, o, none⟩ u) c0 d.l := fun W q o u hq h => conds_keep h (fun a e p hp _ => World.cell?_setCell_other _ _ _ _ (by intro e2; have := hq a e; rw [← e2] at hp; exact this hp.symm))
  have hL : RL [b, bx, br] w ((((((((((w6.setCell ⟨bx, 0, none⟩ (.int .i64 R.k.kind)).setCell ⟨bx, 1, none⟩ (.int .i64 R.k.tenant)).setCell ⟨bx, 2, none⟩ (.string ⟨R.k.who.toArray⟩)).setCell ⟨bx, 3, none⟩ (.int .i64 R.br)).setCell ⟨bx, 4, none⟩ (.string ⟨R.sc.toArray⟩)).setCell ⟨bx, 5, none⟩ (.slice R.c0 R.cn R.cc)).setCell ⟨bx, 6, none⟩ (.string ⟨R.nm.toArray⟩)).setCell ⟨bx, 7, none⟩ (.int .i64 R.k.pl)).setCell ⟨br, 0, none⟩ (.bool ac))) := by repeat (first | with_reducible exact HL6.out | refine kL _ _ _ _ (by simp) ?_)
  have hB : RdAt ((((((((((w6.setCell ⟨bx, 0, none⟩ (.int .i64 R.k.kind)).setCell ⟨bx, 1, none⟩ (.int .i64 R.k.tenant)).setCell ⟨bx, 2, none⟩ (.string ⟨R.k.who.toArray⟩)).setCell ⟨bx, 3, none⟩ (.int .i64 R.br)).setCell ⟨bx, 4, none⟩ (.string ⟨R.sc.toArray⟩)).setCell ⟨bx, 5, none⟩ (.slice R.c0 R.cn R.cc)).setCell ⟨bx, 6, none⟩ (.string ⟨R.nm.toArray⟩)).setCell ⟨bx, 7, none⟩ (.int .i64 R.k.pl)).setCell ⟨br, 0, none⟩ (.bool ac))) b B rest := by repeat (first | with_reducible exact hr6 | refine kB _ _ _ _ (by assumption) (by assumption) ?_)
  have hRR : BoxM ((((((((((w6.setCell ⟨bx, 0, none⟩ (.int .i64 R.k.kind)).setCell ⟨bx, 1, none⟩ (.int .i64 R.k.tenant)).setCell ⟨bx, 2, none⟩ (.string ⟨R.k.who.toArray⟩)).setCell ⟨bx, 3, none⟩ (.int .i64 R.br)).setCell ⟨bx, 4, none⟩ (.string ⟨R.sc.toArray⟩)).setCell ⟨bx, 5, none⟩ (.slice R.c0 R.cn R.cc)).setCell ⟨bx, 6, none⟩ (.string ⟨R.nm.toArray⟩)).setCell ⟨bx, 7, none⟩ (.int .i64 R.k.pl)).setCell ⟨br, 0, none⟩ (.bool ac))) br #[.bool ac] := by
    refine BoxM.set (i := 0) (u := .bool ac) (cs := #[.bool false]) ?_ (by decide)
    repeat (first | with_reducible exact HR6.out | refine kR _ _ _ _ n4.symm ?_)
  have hCC : Conds ((((((((((w6.setCell ⟨bx, 0, none⟩ (.int .i64 R.k.kind)).setCell ⟨bx, 1, none⟩ (.int .i64 R.k.tenant)).setCell ⟨bx, 2, none⟩ (.string ⟨R.k.who.toArray⟩)).setCell ⟨bx, 3, none⟩ (.int .i64 R.br)).setCell ⟨bx, 4, none⟩ (.string ⟨R.sc.toArray⟩)).setCell ⟨bx, 5, none⟩ (.slice R.c0 R.cn R.cc)).setCell ⟨bx, 6, none⟩ (.string ⟨R.nm.toArray⟩)).setCell ⟨bx, 7, none⟩ (.int .i64 R.k.pl)).setCell ⟨br, 0, none⟩ (.bool ac))) c0 d.l := by repeat (first | with_reducible exact hcs | refine kC _ _ _ _ (fun a e => (hq a e).1) ?_ | refine kC _ _ _ _ (fun a e => (hq a e).2) ?_)
  have hMM := ((((((((HM6.out.set (i := 0) (u := .int .i64 R.k.kind) (by first | decide | (simp only [Array.size_setIfInBounds]; decide))).set (i := 1) (u := .int .i64 R.k.tenant) (by first | decide | (simp only [Array.size_setIfInBounds]; decide))).set (i := 2) (u := .string ⟨R.k.who.toArray⟩) (by first | decide | (simp only [Array.size_setIfInBounds]; decide))).set (i := 3) (u := .int .i64 R.br) (by first | decide | (simp only [Array.size_setIfInBounds]; decide))).set (i := 4) (u := .string ⟨R.sc.toArray⟩) (by first | decide | (simp only [Array.size_setIfInBounds]; decide))).set (i := 5) (u := .slice R.c0 R.cn R.cc) (by first | decide | (simp only [Array.size_setIfInBounds]; decide))).set (i := 6) (u := .string ⟨R.nm.toArray⟩) (by first | decide | (simp only [Array.size_setIfInBounds]; decide))).set (i := 7) (u := .int .i64 R.k.pl) (by first | decide | (simp only [Array.size_setIfInBounds]; decide))).other (q := br) (o := 0) (u := .bool ac) n4
  generalize World.setCell (World.setCell _ _ _) _ _ = W9 at *
  simp only [List.setIfInBounds_toArray, List.set_cons_succ, List.set_cons_zero] at hMM
  refine .inl ⟨rfl, hL, d, rest, c0, cap, hd6, hB, ?_, ?_, hCC, hbl⟩
  · rw [hR]; exact hMM
  · rw [hR, hAC]; exact hRR
end Go.Proofs.Ytpbdgbejcdncgaa.Wire
end

section
/- wire.right at subscriptions; the end of wire.ReadMsg. -/
namespace Go.Proofs.Ytpbdgbejcdncgaa.Wire
open Go.RowKit Flt Go.Proofs.Ytpbdgbejcdncgaa.Val Go.Lib
attribute [local go_sem] run_store_flt
theorem sizeA (w : World) (o : Obj) : (w.alloc o).heap.size = w.heap.size + 1 := by simp
abbrev msgS (k : Int) (sf : List UInt8) (c0 : Option Addr) (n cp : Nat) : Array Value := msgL k 0 0 0 [] 0 [] none 0 0 [] 0 sf c0 n cp [] none 0 0 0 [] 0
theorem msgS_size (k : Int) (sf : List UInt8) (c0 : Option Addr) (n cp : Nat) : (msgS k sf c0 n cp).size = 17 := rfl
set_option maxRecDepth 20000 in
set_option maxHeartbeats 1000000 in
theorem right_sub (k : Int) (r : Bool) (sf : List UInt8) (c0 : Option Addr) (cp : Nat) (l : List C) (w : World) (hk : (k == 0) = false) (hk12 : (k == 1) = true ∨ ((k == 1) = false ∧ (k == 2) = true)) (hl : Conds w c0 l) (hlm : l.length ≤ 1000000) (hsf : sf.length ≤ 140737488351232) (hok : ∀ x ∈ l, x.name.length ≤ 140737488351232 ∧ x.val.text.length ≤ 140737488351232) :
    Calls Try.prog 27 #[.agg (msgS k sf c0 l.length cp), .bool r] w fun e w' => e = .returned (.bool (fRight sf l)) ∧ Below w.heap.size w w' := by
  have hfr := fun W (hb : Below w.heap.size w W) => fright_any sf c0 cp l W (hl.below hb) hlm hsf hok
  generalize fRight sf l = FR at *
  have HFR := Lib.hid hfr; clear hfr hl hok
  rcases hk12 with k1 | ⟨k1, k2⟩
  all_goals
    go_enter Try.func27, Try.ntmps27
    go_wp2_with (first | (go_at_call 12; refine (HFR.out _ (balloc _ _)).mono ?_; rintro e w5 ⟨rfl, hb5⟩) | fail)
    go_ret
    exact ⟨rfl, btrans (balloc _ _) hb5⟩
theorem msg_info : (Try.prog.info? 33).map (·.size) = some 17 := by kernel_rfl
theorem msgS_one (k : Int) (sf : List UInt8) (c0 : Option Addr) (n cp : Nat) : (msgS k sf c0 n cp).all (·.oneCell') = true := by
  refine Array.all_eq_true_iff_forall_mem.2 (fun v hv => ?_)
  simp only [List.mem_toArray, List.mem_cons, List.not_mem_nil, or_false] at hv
  rcases hv with rfl | rfl | rfl | rfl | rfl | rfl | rfl | rfl | rfl | rfl | rfl | rfl | rfl | rfl | rfl | rfl | rfl <;> rfl
theorem BoxM.range {W : World} {p : Nat} {cs : Array Value} (h : BoxM W p cs) : W.rangeAt p 0 cs.toList := by
  intro j v hv
  have hj := (List.getElem?_eq_some_iff.1 hv).1
  rw [Array.length_toList] at hj
  rw [Nat.zero_add, h.c j hj, ← hv, Array.getElem?_toList]
theorem BoxM.there {W : World} {p : Nat} {cs : Array Value} (h : BoxM W p cs) : W.there p 0 cs.size := by
  intro j hj
  rw [Nat.zero_add, h.c j hj, Array.getElem?_eq_getElem hj]
  exact ⟨rfl, h.z j⟩
theorem setCells_below (p : Nat) : ∀ (vs : List Value) (o : Nat) (W : World), Below p W (W.setCells p o vs)
  | [], _, _ => Below.refl _ _
  | v :: r, o, W => ((Below.refl p W).setCell (Nat.le_refl p) v).trans (setCells_below p r (o + 1) _)
theorem msg_fin {R : Ending → World → Prop} {T : Array Value} {W9 : World} {p : Nat} {v0 v1 v2 v3 v4 v5 v6 v7 v8 v9 v10 v11 v12 v13 v14 v15 v16 : Value} (h2 : T[2]?.getD undef = .pointer (some ⟨p, 0, none⟩)) (h3 : T[3]?.getD undef = .bool true) (hr : W9.rangeAt p 0 [v0, v1, v2, v3, v4, v5, v6, v7, v8, v9, v10, v11, v12, v13, v14, v15, v16])
    (hR : R (.returned (.tuple #[.agg #[v0, v1, v2, v3, v4, v5, v6, v7, v8, v9, v10, v11, v12, v13, v14, v15, v16], .bool true])) W9) :
    bodyPost Try.prog Try.f6 R .ret { tmps := T, defers := [] } W9 := by
  have e0 : W9.cell? ⟨p, 0, none⟩ = some v0 := hr 0 v0 rfl
  have e1 : W9.cell? ⟨p, 1, none⟩ = some v1 := hr 1 v1 rfl
  have e2 : W9.cell? ⟨p, 2, none⟩ = some v2 := hr 2 v2 rfl
  have e3 : W9.cell? ⟨p, 3, none⟩ = some v3 := hr 3 v3 rfl
  have e4 : W9.cell? ⟨p, 4, none⟩ = some v4 := hr 4 v4 rfl
  have e5 : W9.cell? ⟨p, 5, none⟩ = some v5 := hr 5 v5 rfl
  have e6 : W9.cell? ⟨p, 6, none⟩ = some v6 := hr 6 v6 rfl
  have e7 : W9.cell? ⟨p, 7, none⟩ = some v7 := hr 7 v7 rfl
  have e8 : W9.cell? ⟨p, 8, none⟩ = some v8 := hr 8 v8 rfl
  have e9 : W9.cell? ⟨p, 9, none⟩ = some v9 := hr 9 v9 rfl
  have e10 : W9.cell? ⟨p, 10, none⟩ = some v10 := hr 10 v10 rfl
  have e11 : W9.cell? ⟨p, 11, none⟩ = some v11 := hr 11 v11 rfl
  have e12 : W9.cell? ⟨p, 12, none⟩ = some v12 := hr 12 v12 rfl
  have e13 : W9.cell? ⟨p, 13, none⟩ = some v13 := hr 13 v13 rfl
  have e14 : W9.cell? ⟨p, 14, none⟩ = some v14 := hr 14 v14 rfl
  have e15 : W9.cell? ⟨p, 15, none⟩ = some v15 := hr 15 v15 rfl
  have e16 : W9.cell? ⟨p, 16, none⟩ = some v16 := hr 16 v16 rfl
  refine bodyPost_ret (v := .tuple #[.agg #[v0, v1, v2, v3, v4, v5, v6, v7, v8, v9, v10, v11, v12, v13, v14, v15, v16], .bool true]) ?_ rfl hR
  simp [results, Try.results6, go_sem, h2, h3, e0, e1, e2, e3, e4, e5, e6, e7, e8, e9, e10, e11, e12, e13, e14, e15, e16]
end Go.Proofs.Ytpbdgbejcdncgaa.Wire
end

section
/- wire.right at what a message's closure tells; wire.ReadMsg at any bytes. -/
namespace Go.Proofs.Ytpbdgbejcdncgaa.Wire
open Go.RowKit Flt Go.Proofs.Ytpbdgbejcdncgaa.Val Go.Lib
attribute [local go_sem] run_store_flt
theorem mcs_one (m : M) : (mcs m).all (·.oneCell') = true := by
  refine Array.all_eq_true_iff_forall_mem.2 (fun v hv => ?_)
  simp only [List.mem_toArray, List.mem_cons, List.not_mem_nil, or_false] at hv
  rcases hv with rfl | rfl | rfl | rfl | rfl | rfl | rfl | rfl | rfl | rfl | rfl | rfl | rfl | rfl | rfl | rfl | rfl <;> rfl
theorem mcs_size (m : M) : (mcs m).size = 17 := rfl
theorem Tells.below {n : Nat} {w w2 : World} {m : M} {s rest : List UInt8} (h : Tells n w m s rest) (hb : Below w.heap.size w w2) : Tells n w2 m s rest := by
  rcases h with ⟨h, cs, h1, h2⟩ | ⟨h, cs, h1, h2⟩ | ⟨h, l, h1, h2⟩
  · exact .inl ⟨h, cs, h1.below hb, h2⟩
  · exact .inr (.inl ⟨h, cs, h1.below hb, h2⟩)
  · exact .inr (.inr ⟨h, l, h1.below hb, h2⟩)
/-- what a message tells, where a box that is no part of it was turned -/
theorem Tells.rk {n : Nat} {w w2 : World} {m : M} {s rest : List UInt8} (h : Tells n w m s rest) (hk : ∀ p : Addr, p.block < w.heap.size → n ≤ p.block → w2.cell? p = w.cell? p) : Tells n w2 m s rest := by
  rcases h with ⟨h, cs, h1, h2, h3, h4⟩ | ⟨h, cs, h1, h2, h3, h4⟩ | ⟨h, l, h1, h2, h3, h4⟩
  · exact .inl ⟨h, cs, conds_keep h1 (fun a e p hp hlt => hk p hlt (by rw [hp]; exact h3 a e)), h2, h3, h4⟩
  · exact .inr (.inl ⟨h, cs, conds_keep h1 (fun a e p hp hlt => hk p hlt (by rw [hp]; exact h3 a e)), h2, h3, h4⟩)
  · exact .inr (.inr ⟨h, l, attrs_keep h1 (fun a e p hp hlt => hk p hlt (by rw [hp]; exact h3 a e)), h2, h3, h4⟩)
/-- yes, or no -/
def SomeB (e : Ending) : Prop := ∃ q : Bool, e = .returned (.bool q)
set_option maxRecDepth 20000 in
set_option maxHeartbeats 2000000 in
theorem right_msg (m : M) (r : Bool) (n : Nat) (w : World) (s rest : List UInt8) (H : Tells n w m s rest) :
    Calls Try.prog 27 #[mv m, .bool r] w fun e w' => SomeB e ∧ Below w.heap.size w w' := by
  obtain ⟨kd, mat, ⟨⟨rk, rt, who, pl⟩, rb, sc, c0, rn, cc, nm⟩, fs, f0, fn, fc, es, e0, en, ec, ver, org, ser⟩ := m
  unfold Tells at H
  dsimp only at H
  rcases H with ⟨h, _⟩ | ⟨h, cs, h1, h2, _, _, _, h3, h4, h5⟩ | ⟨h, l, h1, h2, _, _, _, _, h3, h4⟩
  · have k0 : (kd == 0) = true := by simpa using h
    clear h
    cases r
    all_goals
      go_enter Try.func27, Try.ntmps27
      go_wp2_with fail
      go_ret
      exact ⟨⟨_, rfl⟩, balloc _ _⟩
  · have k0 : (kd == 0) = false := by rcases h with h | h <;> rw [h] <;> rfl
    have hk12 : (kd == 1) = true ∨ ((kd == 1) = false ∧ (kd == 2) = true) := by rcases h with h | h <;> rw [h] <;> simp
    subst h2
    have hfr := fun W (hb : Below w.heap.size w W) => fright_any fs f0 fc cs W (h1.below hb) (by omega) (by omega) h5
    have HFR := Lib.hid hfr; clear hfr h h1 h5
    generalize fRight fs cs = FR at *
    rcases hk12 with k1 | ⟨k1, k2⟩
    all_goals
      go_enter Try.func27, Try.ntmps27
      go_wp2_with (first | (go_at_call 12; refine (HFR.out _ (balloc _ _)).mono ?_; rintro e w5 ⟨rfl, hb5⟩) | fail)
      go_ret
      exact ⟨⟨_, rfl⟩, btrans (balloc _ _) hb5⟩
  · have k0 : (kd == 0) = false := by rw [h]; rfl
    have k1 : (kd == 1) = false := by rw [h]; rfl
    have k2 : (kd == 2) = false := by rw [h]; rfl
    have hnm := fun W => Sc.name_l org W (by omega)
    have hsc := fun W => Sc.right_l es W (by omega)
    generalize Sc.nameB org = nb at *
    generalize Sc.rightB es = sb at *
    have HNM := Lib.hid hnm; have HSC := Lib.hid hsc
    clear hnm hsc h1 h h3 h4
    cases nb
    · go_enter Try.func27, Try.ntmps27
      go_wp2_with (first | (go_at_call 17; refine (HNM.out _).mono ?_; rintro e w5 ⟨rfl, rfl⟩) | fail)
      go_ret
      exact ⟨⟨_, rfl⟩, balloc _ _⟩
    cases sb
    · go_enter Try.func27, Try.ntmps27
      go_wp2_with (first | (go_at_call 17; refine (HNM.out _).mono ?_; rintro e w5 ⟨rfl, rfl⟩) | (go_at_call 18; refine (HSC.out _).mono ?_; rintro e w6 ⟨rfl, ⟨nd, rfl⟩⟩) | fail)
      go_ret
      exact ⟨⟨_, rfl⟩, bdrewN (balloc _ _) _⟩
    by_cases j1 : 0 ≤ ser
    · by_cases j2 : 0 ≤ ver
      · go_enter Try.func27, Try.ntmps27
        go_wp2_with (first | (go_at_call 17; refine (HNM.out _).mono ?_; rintro e w5 ⟨rfl, rfl⟩) | (go_at_call 18; refine (HSC.out _).mono ?_; rintro e w6 ⟨rfl, ⟨nd, rfl⟩⟩) | fail)
        go_ret
        exact ⟨⟨_, rfl⟩, bdrewN (balloc _ _) _⟩
      · go_enter Try.func27, Try.ntmps27
        go_wp2_with (first | (go_at_call 17; refine (HNM.out _).mono ?_; rintro e w5 ⟨rfl, rfl⟩) | (go_at_call 18; refine (HSC.out _).mono ?_; rintro e w6 ⟨rfl, ⟨nd, rfl⟩⟩) | fail)
        all_goals first | (exfalso; omega) | (go_ret; exact ⟨⟨_, rfl⟩, bdrewN (balloc _ _) _⟩)
    · go_enter Try.func27, Try.ntmps27
      go_wp2_with (first | (go_at_call 17; refine (HNM.out _).mono ?_; rintro e w5 ⟨rfl, rfl⟩) | (go_at_call 18; refine (HSC.out _).mono ?_; rintro e w6 ⟨rfl, ⟨nd, rfl⟩⟩) | fail)
      all_goals first | (exfalso; omega) | (go_ret; exact ⟨⟨_, rfl⟩, bdrewN (balloc _ _) _⟩)
end Go.Proofs.Ytpbdgbejcdncgaa.Wire
end

section
/- THE WALK OF wire.ReadMsg at subscriptions. -/
namespace Go.Proofs.Ytpbdgbejcdncgaa.Wire
open Go.RowKit Flt Go.Proofs.Ytpbdgbejcdncgaa.Val Go.Lib
attribute [local go_sem] run_store_flt
/-- how the read ended, and where its message lies -/
def SubEnd (W4 : World) (bm : Nat) (k : Int) (sf : List UInt8) (l : List C) (x : Option (List UInt8)) (w1 : World) : Prop :=
  x = some [] ∧ ∃ (c0 : Option Addr) (cp : Nat) (W : World), Below W4.heap.size W4 W ∧ RM (W4.heap.size + 1) bm W w1 ∧ BoxM w1 bm (msgS k sf c0 l.length cp) ∧ l.length ≤ cp ∧ Conds w1 c0 l ∧ (∀ a, c0 = some a → W4.heap.size < a.block) ∧ W4.heap.size + 1 < W.heap.size
set_option maxRecDepth 20000 in
set_option maxHeartbeats 4000000 in
theorem readmsg_sub (a0 : Option Addr) (cap : Nat) (c : UInt8) (t sf : List UInt8) (l : List C) (w : World) (hc : c = 1 ∨ c = 2) (hd : decFilter t = some ((sf, l), [])) (hr : fRight sf l = true)
    (hby : BytesAt w a0 (c :: t)) (hcap : (c :: t).length ≤ cap) (hcm : cap ≤ maxLen) (hn : a0 = none → cap = 0) (hlm : l.length ≤ 1000000) (hsf : sf.length ≤ 140737488351232) (hok : ∀ x ∈ l, x.name.length ≤ 140737488351232 ∧ x.val.text.length ≤ 140737488351232) :
    Calls Try.prog 6 #[.slice a0 (c :: t).length cap] w fun e w' => (∃ (c0 : Option Addr) (cp : Nat), e = .returned (.tuple #[.agg (msgL (c.toNat : Int) 0 0 0 [] 0 [] none 0 0 [] 0 sf c0 l.length cp [] none 0 0 0 [] 0), .bool true]) ∧ l.length ≤ cp ∧ Conds w' c0 l) ∧ Below w.heap.size w w' := by
  have hmf : ∀ (fn : Fn) (first cap : Array Value) (w : World), (Instr.makeFunc fn first cap).run Try.prog w = .ok (.func fn first cap) w := fun _ _ _ _ => rfl
  obtain ⟨k, hk, k0, k12⟩ : ∃ k : Int, (c.toNat : Int) = k ∧ (k == 0) = false ∧ ((k == 1) = true ∨ ((k == 1) = false ∧ (k == 2) = true)) := by
    rcases hc with rfl | rfl
    · exact ⟨1, rfl, rfl, .inl rfl⟩
    · exact ⟨2, rfl, rfl, .inr ⟨rfl, rfl⟩⟩
  have HBY := Lib.hid hby; have HN := Lib.hid hn; have HOK := Lib.hid hok
  clear hby hn hok
  go_enter Try.func6, Try.ntmps6
  go_upto_region 3 with fail
  have hp0 := boxm_new w msgZ 33 (by decide)
  have hp1 := boxm_new (w.alloc (.cells msgZ 33)) msgZ 33 (by decide)
  have hp2 := boxm_new ((w.alloc (.cells msgZ 33)).alloc (.cells msgZ 33)) #[.bool false] 4 (by decide)
  have hp3 := boxm_new (((w.alloc (.cells msgZ 33)).alloc (.cells msgZ 33)).alloc (.cells #[.bool false] 4)) #[.bool true] 4 (by decide)
  have hb4 : Below w.heap.size w ((((w.alloc (.cells msgZ 33)).alloc (.cells msgZ 33)).alloc (.cells #[.bool false] 4)).alloc (.cells #[.bool true] 4)) := btrans (balloc2 _ _ _) (balloc2 _ _ _)
  have hq0 := hp0.below (btrans (balloc _ (.cells msgZ 33)) (balloc2 _ (.cells #[.bool false] 4) (.cells #[.bool true] 4)))
  have hq1 := hp1.below (balloc2 _ (.cells #[.bool false] 4) (.cells #[.bool true] 4))
  have hq2 := hp2.below (balloc _ (.cells #[.bool true] 4))
  simp only [sizeA] at hq1 hq2 hp3
  have hs4 : ((((w.alloc (.cells msgZ 33)).alloc (.cells msgZ 33)).alloc (.cells #[.bool false] 4)).alloc (.cells #[.bool true] 4)).heap.size = w.heap.size + 4 := by simp
  clear hp0 hp1 hp2
  generalize World.alloc (World.alloc (World.alloc (World.alloc w _) _) _) _ = W4 at *
  obtain ⟨bm, hbm⟩ : ∃ bm, bm = w.heap.size + 1 := ⟨_, rfl⟩
  obtain ⟨br, hbr⟩ : ∃ br, br = w.heap.size + 1 + 1 := ⟨_, rfl⟩
  obtain ⟨bk, hbk⟩ : ∃ bk, bk = w.heap.size + 1 + 1 + 1 := ⟨_, rfl⟩
  rw [← hbk] at hp3 ⊢
  rw [← hbr] at hq2 ⊢
  rw [← hbm] at hq1 ⊢
  have o1 : w.heap.size < bm := by omega
  have o2 : bm < br := by omega
  have o3 : br < bk := by omega
  have o4 : bk < W4.heap.size := by omega
  clear hbm hbr hbk hs4
  have hread : Calls Try.prog 19 #[.slice a0 (c :: t).length cap, .func (Fn.func 20) #[] #[.pointer (some ⟨bm, 0, none⟩), .pointer (some ⟨br, 0, none⟩), .pointer (some ⟨bk, 0, none⟩)]] W4 fun e w' => ReadP (SubEnd W4 bm k sf l) W4.heap.size e w' := read_msg (B := w.heap.size) a0 cap (c :: t) ⟨bm, 0, none⟩ ⟨br, 0, none⟩ ⟨bk, 0, none⟩ W4 (SubEnd W4 bm k sf l) (fun W hbW hrd => by
    have hlt := hrd.lt
    refine (clo_sub (W4.heap.size + 1) bm br bk c t sf [] l W hrd hc hd (hq1.below hbW) (by omega) (by omega)).mono ?_
    rintro e w' ⟨rfl, c0, cp, h1, h2, h3, h4, h5, h6, h7⟩
    have hblk := h7.block W4.heap.size (by omega) (by omega) (by omega)
    rw [hk] at h1
    exact .inl ⟨[], rfl, h6, World.cell?_of_block (w := W) (a := ⟨W4.heap.size, 0, none⟩) hblk, World.frozen?_of_block (w := W) (a := ⟨W4.heap.size, 0, none⟩) hblk, rfl, c0, cp, W, hbW, h7, h1, h2, h3, fun a e => by have := h4 a e; omega, hlt⟩)
    ((HBY.out).below hb4) hcap hcm HN.out (by omega) (bytes_low HBY.out)
  have HREAD := Lib.hid hread; have HQ0 := Lib.hid hq0; have HQ2 := Lib.hid hq2; have HQ3 := Lib.hid hp3; have HB4 := Lib.hid hb4
  clear hread hq0 hq1 hq2 hp3 hb4
  go_upto_region 4 with (first | (go_at_call 19; refine HREAD.out.mono ?_; rintro e w5 ⟨ok, x, w1, rfl, ⟨rfl, c0, cp, W, hbW, hrm, hbx, hcp, hcs, hbl, hWl⟩, hok1, hrk⟩; (have hokt : ok = true := hok1.2 rfl); subst hokt; have hw1 : W.heap.size ≤ w1.heap.size := hrm.size; have HP1 := Lib.hid (((HQ0.out.below hbW).rm hrm (by omega) (by omega)).rk hrk (by omega)); have HP2 := Lib.hid (((HQ2.out.below hbW).rm hrm (by omega) (by omega)).rk hrk (by omega)); have HP3 := Lib.hid (((HQ3.out.below hbW).rm hrm (by omega) (by omega)).rk hrk (by omega)); have HPM := Lib.hid (hbx.rk hrk (by omega)); have xk : w5.cell? ⟨bk, 0, none⟩ = some (.bool true) := HP3.out.c 0 (by decide); have xr : w5.cell? ⟨br, 0, none⟩ = some (.bool false) := HP2.out.c 0 (by decide); have m0 : w5.cell? ⟨bm, 0, none⟩ = some (.int .i64 k) := HPM.out.c 0 (by rw [msgS_size]; decide); have m1 : w5.cell? ⟨bm, 1, none⟩ = some (.int .i64 0) := HPM.out.c 1 (by rw [msgS_size]; decide); have m2 : w5.cell? ⟨bm, 2, none⟩ = some (.int .i64 0) := HPM.out.c 2 (by rw [msgS_size]; decide); have m3 : w5.cell? ⟨bm, 3, none⟩ = some (.int .i64 0) := HPM.out.c 3 (by rw [msgS_size]; decide); have m4 : w5.cell? ⟨bm, 4, none⟩ = some (.string ⟨#[]⟩) := HPM.out.c 4 (by rw [msgS_size]; decide); have m5 : w5.cell? ⟨bm, 5, none⟩ = some (.int .i64 0) := HPM.out.c 5 (by rw [msgS_size]; decide); have m6 : w5.cell? ⟨bm, 6, none⟩ = some (.string ⟨#[]⟩) := HPM.out.c 6 (by rw [msgS_size]; decide); have m7 : w5.cell? ⟨bm, 7, none⟩ = some (.slice none 0 0) := HPM.out.c 7 (by rw [msgS_size]; decide); have m8 : w5.cell? ⟨bm, 8, none⟩ = some (.string ⟨#[]⟩) := HPM.out.c 8 (by rw [msgS_size]; decide); have m9 : w5.cell? ⟨bm, 9, none⟩ = some (.int .i64 0) := HPM.out.c 9 (by rw [msgS_size]; decide); have m10 : w5.cell? ⟨bm, 10, none⟩ = some (.string ⟨sf.toArray⟩) := HPM.out.c 10 (by rw [msgS_size]; decide); have m11 : w5.cell? ⟨bm, 11, none⟩ = some (.slice c0 l.length cp) := HPM.out.c 11 (by rw [msgS_size]; decide); have m12 : w5.cell? ⟨bm, 12, none⟩ = some (.string ⟨#[]⟩) := HPM.out.c 12 (by rw [msgS_size]; decide); have m13 : w5.cell? ⟨bm, 13, none⟩ = some (.slice none 0 0) := HPM.out.c 13 (by rw [msgS_size]; decide); have m14 : w5.cell? ⟨bm, 14, none⟩ = some (.int .i64 0) := HPM.out.c 14 (by rw [msgS_size]; decide); have m15 : w5.cell? ⟨bm, 15, none⟩ = some (.string ⟨#[]⟩) := HPM.out.c 15 (by rw [msgS_size]; decide); have m16 : w5.cell? ⟨bm, 16, none⟩ = some (.int .i64 0) := HPM.out.c 16 (by rw [msgS_size]; decide)) | fail)
  as_aux_lemma =>
    have hcs5 : Conds w5 c0 l := conds_keep hcs (fun a e p hp hlt => hrk.cell hlt (by rw [hp]; have := hbl a e; omega))
    have hright := right_sub k false sf c0 cp l w5 k0 k12 hcs5 hlm hsf HOK.out
    rw [hr] at hright
    have HRIGHT := Lib.hid hright; have HCS5 := Lib.hid hcs5
    have hb5 : Below w.heap.size w w5 := HB4.out.trans ((hbW.mono (by omega)).trans ((show Below w.heap.size W w1 from ⟨hrm.os, hrm.tape, hrm.output, hrm.size, fun p hp => hrm.block p (by have := hbW.size; omega) (by omega) (by omega)⟩).trans (hrk.below (by omega) (by have := hbW.size; omega))))
    have HB5 := Lib.hid hb5
    have HBL := Lib.hid (show ∀ a, c0 = some a → W4.heap.size < a.block from hbl)
    clear hright hcs5 hb5 hbW hrm hbx hcs hbl hrk hWl hok1 hw1
    go_upto_region 6 with (first | (go_at_call 27; refine HRIGHT.out.mono ?_; rintro e w6 ⟨rfl, hb6⟩; have HM6 := Lib.hid (HPM.out.below hb6).range; have HT6 := Lib.hid (HP1.out.below hb6).there) | fail)
    clear m0 m1 m2 m3 m4 m5 m6 m7 m8 m9 m10 m11 m12 m13 m14 m15 m16 xk xr
    as_aux_lemma =>
    refine wp_region_lit ?_
    refine wpList_load_mid rfl 33 _ rfl bm 0 rfl (msgS k sf c0 l.length cp).toList _ HM6.out Try.underlying33 rfl msg_info ?_
    refine wpList_store_mid rfl 33 _ _ rfl w.heap.size 0 (msgS k sf c0 l.length cp) rfl rfl HT6.out msg_info (msgS_one _ _ _ _ _) ?_
    have hrg := World.rangeAt_setCells_same w6 w.heap.size 0 (msgS k sf c0 l.length cp).toList HT6.out
    have hb9 := setCells_below w.heap.size (msgS k sf c0 l.length cp).toList 0 w6
    have hfar := fun (q : Addr) (hq : q.block ≠ w.heap.size) => World.cell?_setCells_out w.heap.size (msgS k sf c0 l.length cp).toList 0 w6 q (fun h1 => absurd h1 hq)
    generalize World.setCells w6 _ _ _ = W9 at *
    have hc9 : Conds W9 c0 l := conds_keep (HCS5.out.below hb6) (fun a e p hp _ => hfar p (by rw [hp]; have := HBL.out a e; omega))
    have HRG := Lib.hid hrg; have HB9 := Lib.hid hb9; have HC9 := Lib.hid hc9
    clear hrg hb9 hc9 hfar
    go_wp2_with fail
    refine msg_fin rfl rfl HRG.out ?_
    exact ⟨⟨c0, cp, by (first | (subst hk; rfl) | (simp only [hk]; done) | (trace_state; fail)), hcp, HC9.out⟩, (btrans HB5.out hb6).trans HB9.out⟩
end Go.Proofs.Ytpbdgbejcdncgaa.Wire
end

section
/- THE WALK OF wire.ReadMsg at any bytes. -/
namespace Go.Proofs.Ytpbdgbejcdncgaa.Wire
open Go.RowKit Flt Go.Proofs.Ytpbdgbejcdncgaa.Val Go.Lib
attribute [local go_sem] run_store_flt
/-- how the read of a message ended, and what it tells -/
def MsgEnd (W4 : World) (bm br bk : Nat) (s : List UInt8) (x : Option (List UInt8)) (w1 : World) : Prop :=
  ∃ W : World, Below W4.heap.size W4 W ∧ W4.heap.size + 1 < W.heap.size ∧ RL [W4.heap.size + 1, bm, br, bk] W w1 ∧ ∀ rest, x = some rest → ∃ (m : M) (ruled kind : Bool), BoxM w1 bm (mcs m) ∧ BoxM w1 br #[.bool ruled] ∧ BoxM w1 bk #[.bool kind] ∧ (kind = true → Tells W.heap.size w1 m s rest)
/-- what ReadMsg answers -/
def MsgP (w : World) (s : List UInt8) (e : Ending) (w' : World) : Prop :=
  ((∃ m : M, e = .returned (.tuple #[mv m, .bool true]) ∧ Tells w.heap.size w' m s []) ∨ e = .returned (.tuple #[.agg msgZ, .bool false])) ∧ Below w.heap.size w w'
theorem RL.low {n : Nat} {L : List Nat} {W W2 : World} (h : RL L W W2) (hn : n ≤ W.heap.size) (hL : ∀ q ∈ L, n ≤ q) : Below n W W2 :=
  ⟨h.os, h.tape, h.output, h.size, fun p hp => h.block p (by omega) (fun e => by have := hL p e; omega)⟩
theorem Tells.mono {n n2 : Nat} {w : World} {m : M} {s rest : List UInt8} (h : Tells n w m s rest) (hn : n2 ≤ n) : Tells n2 w m s rest := by
  rcases h with ⟨h, cs, h1, h2, h3, h4⟩ | ⟨h, cs, h1, h2, h3, h4⟩ | ⟨h, l, h1, h2, h3, h4⟩
  · exact .inl ⟨h, cs, h1, h2, fun a e => Nat.le_trans hn (h3 a e), h4⟩
  · exact .inr (.inl ⟨h, cs, h1, h2, fun a e => Nat.le_trans hn (h3 a e), h4⟩)
  · exact .inr (.inr ⟨h, l, h1, h2, fun a e => Nat.le_trans hn (h3 a e), h4⟩)
theorem msg_no {R : Ending → World → Prop} {T : Array Value} {W9 : World} {p : Nat} (h2 : T[2]?.getD undef = .pointer (some ⟨p, 0, none⟩)) (h3 : T[3]?.getD undef = .bool false) (hr : W9.rangeAt p 0 msgZ.toList)
    (hR : R (.returned (.tuple #[.agg msgZ, .bool false])) W9) :
    bodyPost Try.prog Try.f6 R .ret { tmps := T, defers := [] } W9 := by
  have e0 : W9.cell? ⟨p, 0, none⟩ = some (.int .i64 0) := hr 0 _ rfl
  have e1 : W9.cell? ⟨p, 1, none⟩ = some (.int .i64 0) := hr 1 _ rfl
  have e2 : W9.cell? ⟨p, 2, none⟩ = some (.int .i64 0) := hr 2 _ rfl
  have e3 : W9.cell? ⟨p, 3, none⟩ = some (.int .i64 0) := hr 3 _ rfl
  have e4 : W9.cell? ⟨p, 4, none⟩ = some (.string ⟨#[]⟩) := hr 4 _ rfl
  have e5 : W9.cell? ⟨p, 5, none⟩ = some (.int .i64 0) := hr 5 _ rfl
  have e6 : W9.cell? ⟨p, 6, none⟩ = some (.string ⟨#[]⟩) := hr 6 _ rfl
  have e7 : W9.cell? ⟨p, 7, none⟩ = some (.slice none 0 0) := hr 7 _ rfl
  have e8 : W9.cell? ⟨p, 8, none⟩ = some (.string ⟨#[]⟩) := hr 8 _ rfl
  have e9 : W9.cell? ⟨p, 9, none⟩ = some (.int .i64 0) := hr 9 _ rfl
  have e10 : W9.cell? ⟨p, 10, none⟩ = some (.string ⟨#[]⟩) := hr 10 _ rfl
  have e11 : W9.cell? ⟨p, 11, none⟩ = some (.slice none 0 0) := hr 11 _ rfl
  have e12 : W9.cell? ⟨p, 12, none⟩ = some (.string ⟨#[]⟩) := hr 12 _ rfl
  have e13 : W9.cell? ⟨p, 13, none⟩ = some (.slice none 0 0) := hr 13 _ rfl
  have e14 : W9.cell? ⟨p, 14, none⟩ = some (.int .i64 0) := hr 14 _ rfl
  have e15 : W9.cell? ⟨p, 15, none⟩ = some (.string ⟨#[]⟩) := hr 15 _ rfl
  have e16 : W9.cell? ⟨p, 16, none⟩ = some (.int .i64 0) := hr 16 _ rfl
  refine bodyPost_ret (v := .tuple #[.agg msgZ, .bool false]) ?_ rfl hR
  simp [results, Try.results6, go_sem, h2, h3, e0, e1, e2, e3, e4, e5, e6, e7, e8, e9, e10, e11, e12, e13, e14, e15, e16]
set_option maxRecDepth 20000 in
set_option maxHeartbeats 4000000 in
theorem readmsg_any (a0 : Option Addr) (cap : Nat) (s : List UInt8) (w : World) (hby : BytesAt w a0 s) (hcap : s.length ≤ cap) (hcm : cap ≤ maxLen) (hn : a0 = none → cap = 0) :
    Calls Try.prog 6 #[.slice a0 s.length cap] w fun e w' => MsgP w s e w' := by
  have hmf : ∀ (fn : Fn) (first cap : Array Value) (w : World), (Instr.makeFunc fn first cap).run Try.prog w = .ok (.func fn first cap) w := fun _ _ _ _ => rfl
  have HBY := Lib.hid hby; have HN := Lib.hid hn
  clear hby hn
  go_enter Try.func6, Try.ntmps6
  go_upto_region 3 with fail
  have hp0 := boxm_new w msgZ 33 (by decide)
  have hp1 := boxm_new (w.alloc (.cells msgZ 33)) msgZ 33 (by decide)
  have hp2 := boxm_new ((w.alloc (.cells msgZ 33)).alloc (.cells msgZ 33)) #[.bool false] 4 (by decide)
  have hp3 := boxm_new (((w.alloc (.cells msgZ 33)).alloc (.cells msgZ 33)).alloc (.cells #[.bool false] 4)) #[.bool true] 4 (by decide)
  have hb4 : Below w.heap.size w ((((w.alloc (.cells msgZ 33)).alloc (.cells msgZ 33)).alloc (.cells #[.bool false] 4)).alloc (.cells #[.bool true] 4)) := btrans (balloc2 _ _ _) (balloc2 _ _ _)
  have hq0 := hp0.below (btrans (balloc _ (.cells msgZ 33)) (balloc2 _ (.cells #[.bool false] 4) (.cells #[.bool true] 4)))
  have hq1 := hp1.below (balloc2 _ (.cells #[.bool false] 4) (.cells #[.bool true] 4))
  have hq2 := hp2.below (balloc _ (.cells #[.bool true] 4))
  simp only [sizeA] at hq1 hq2 hp3
  have hs4 : ((((w.alloc (.cells msgZ 33)).alloc (.cells msgZ 33)).alloc (.cells #[.bool false] 4)).alloc (.cells #[.bool true] 4)).heap.size = w.heap.size + 4 := by simp
  clear hp0 hp1 hp2
  generalize World.alloc (World.alloc (World.alloc (World.alloc w _) _) _) _ = W4 at *
  obtain ⟨bm, hbm⟩ : ∃ bm, bm = w.heap.size + 1 := ⟨_, rfl⟩
  obtain ⟨br, hbr⟩ : ∃ br, br = w.heap.size + 1 + 1 := ⟨_, rfl⟩
  obtain ⟨bk, hbk⟩ : ∃ bk, bk = w.heap.size + 1 + 1 + 1 := ⟨_, rfl⟩
  rw [← hbk] at hp3 ⊢
  rw [← hbr] at hq2 ⊢
  rw [← hbm] at hq1 ⊢
  have o1 : w.heap.size < bm := by omega
  have o2 : bm < br := by omega
  have o3 : br < bk := by omega
  have o4 : bk < W4.heap.size := by omega
  clear hbm hbr hbk hs4
  have hread : Calls Try.prog 19 #[.slice a0 s.length cap, .func (Fn.func 20) #[] #[.pointer (some ⟨bm, 0, none⟩), .pointer (some ⟨br, 0, none⟩), .pointer (some ⟨bk, 0, none⟩)]] W4 fun e w' => ReadP (MsgEnd W4 bm br bk s) W4.heap.size e w' := read_msg (B := w.heap.size) a0 cap s ⟨bm, 0, none⟩ ⟨br, 0, none⟩ ⟨bk, 0, none⟩ W4 (MsgEnd W4 bm br bk s) (fun W hbW hrd => by
    have hlt := hrd.lt
    refine (clo_any (W4.heap.size + 1) bm br bk s W ⟨hrd, hq1.below hbW, hq2.below hbW, hp3.below hbW, by omega, by omega, by omega, by omega, by omega, by omega, by omega, by omega, by omega⟩).mono ?_
    rintro e w' (⟨rfl, hrl, rest, m, ruled, kind, h1, h2, h3, h4, h5⟩ | ⟨rfl, hrl⟩)
    all_goals have hblk := hrl.block W4.heap.size (by omega) (by simp only [List.mem_cons, List.not_mem_nil, or_false, not_or]; omega)
    · exact .inl ⟨rest, rfl, h1, World.cell?_of_block (w := W) (a := ⟨W4.heap.size, 0, none⟩) hblk, World.frozen?_of_block (w := W) (a := ⟨W4.heap.size, 0, none⟩) hblk, W, hbW, hlt, hrl, fun r hr => by injection hr with hr; subst hr; exact ⟨m, ruled, kind, h2, h3, h4, h5⟩⟩
    · exact .inr ⟨rfl, World.cell?_of_block (w := W) (a := ⟨W4.heap.size, 0, none⟩) hblk, World.frozen?_of_block (w := W) (a := ⟨W4.heap.size, 0, none⟩) hblk, W, hbW, hlt, hrl, fun r hr => by cases hr⟩)
    ((HBY.out).below hb4) hcap hcm HN.out (by omega) (bytes_low HBY.out)
  have HREAD := Lib.hid hread; have HQ0 := Lib.hid hq0; have HB4 := Lib.hid hb4
  clear hread hq0 hq1 hq2 hp3 hb4
  have hbuilt : Try.prog.built 33 [] = some msgZ := by kernel_rfl
  go_upto_region 4 with (first | (go_at_call 19; refine HREAD.out.mono ?_; rintro e w5 ⟨ok, x, w1, rfl, ⟨W, hbW, hWl, hrl, hm⟩, hok1, hrk⟩) | fail)
  have hw1 : W.heap.size ≤ w1.heap.size := hrl.size
  have hsW := hbW.size
  have hmem : w.heap.size ∉ [W4.heap.size + 1, bm, br, bk] := by simp only [List.mem_cons, List.not_mem_nil, or_false, not_or]; omega
  have HT := Lib.hid (((HQ0.out.below hbW).rl hrl hmem).rk hrk (by omega))
  have hb5 : Below w.heap.size w w5 := HB4.out.trans ((hbW.mono (by omega)).trans ((hrl.low (by omega) (by intro q hq; simp only [List.mem_cons, List.not_mem_nil, or_false] at hq; omega)).trans (hrk.below (by omega) (by omega))))
  have HB := Lib.hid hb5
  clear hb5 HREAD HQ0 HB4 hbW hmem
  cases ok
  · clear hm hok1 hrl hrk
    go_upto_region 5 with fail
    (refine wp_region_lit ?_; refine wpList_build rfl 33 #[] rfl (by simp [hbuilt]) ?_; refine wpList_store_mid rfl 33 _ _ rfl w.heap.size 0 msgZ rfl (by simp [hbuilt, go_sem]) HT.out.there msg_info (msgS_one 0 [] none 0 0) ?_; have HRG := Lib.hid (World.rangeAt_setCells_same _ w.heap.size 0 msgZ.toList HT.out.there); have HB9 := Lib.hid (HB.out.trans (setCells_below w.heap.size msgZ.toList 0 _)); clear HT HB; generalize World.setCells _ _ _ _ = W9 at *; go_wp2_with fail; refine msg_no rfl rfl HRG.out ?_; exact ⟨.inr rfl, HB9.out⟩)
  have hx := hok1.1 rfl
  subst hx
  obtain ⟨m, ruled, kind, h1, h2, h3, h4⟩ := hm [] rfl
  have hk5 := h3.rk hrk (by omega)
  have hr5 := h2.rk hrk (by omega)
  have hm5 := h1.rk hrk (by omega)
  have xk : w5.cell? ⟨bk, 0, none⟩ = some (.bool kind) := hk5.c 0 (by simp)
  have xr : w5.cell? ⟨br, 0, none⟩ = some (.bool ruled) := hr5.c 0 (by simp)
  cases kind
  · clear hm h4 hok1 hrl hrk hm5 hk5 hr5 h1 h2 h3
    go_upto_region 5 with fail
    (refine wp_region_lit ?_; refine wpList_build rfl 33 #[] rfl (by simp [hbuilt]) ?_; refine wpList_store_mid rfl 33 _ _ rfl w.heap.size 0 msgZ rfl (by simp [hbuilt, go_sem]) HT.out.there msg_info (msgS_one 0 [] none 0 0) ?_; have HRG := Lib.hid (World.rangeAt_setCells_same _ w.heap.size 0 msgZ.toList HT.out.there); have HB9 := Lib.hid (HB.out.trans (setCells_below w.heap.size msgZ.toList 0 _)); clear HT HB; generalize World.setCells _ _ _ _ = W9 at *; go_wp2_with fail; refine msg_no rfl rfl HRG.out ?_; exact ⟨.inr rfl, HB9.out⟩)
  have ht5 : Tells (W4.heap.size + 1) w5 m s [] := (h4 rfl).rk (fun p hp hn => hrk.cell hp (by omega)) |>.mono (by omega)
  have hright : Calls Try.prog 27 #[.agg (mcs m), .bool ruled] w5 fun e w' => SomeB e ∧ Below w5.heap.size w5 w' := right_msg m ruled _ w5 s [] ht5
  have HRIGHT := Lib.hid hright; have HTT := Lib.hid ht5; have HPM := Lib.hid hm5
  clear hm h4 hok1 hrl hrk hm5 hk5 hr5 h1 h2 h3 ht5 hright
  (have m0 : w5.cell? ⟨bm, 0, none⟩ = some (.int .i64 m.kind) := HPM.out.c 0 (by rw [mcs_size]; decide); have m1 : w5.cell? ⟨bm, 1, none⟩ = some (.int .i64 m.at_) := HPM.out.c 1 (by rw [mcs_size]; decide); have m2 : w5.cell? ⟨bm, 2, none⟩ = some (.int .i64 m.r.k.kind) := HPM.out.c 2 (by rw [mcs_size]; decide); have m3 : w5.cell? ⟨bm, 3, none⟩ = some (.int .i64 m.r.k.tenant) := HPM.out.c 3 (by rw [mcs_size]; decide); have m4 : w5.cell? ⟨bm, 4, none⟩ = some (.string ⟨m.r.k.who.toArray⟩) := HPM.out.c 4 (by rw [mcs_size]; decide); have m5 : w5.cell? ⟨bm, 5, none⟩ = some (.int .i64 m.r.br) := HPM.out.c 5 (by rw [mcs_size]; decide); have m6 : w5.cell? ⟨bm, 6, none⟩ = some (.string ⟨m.r.sc.toArray⟩) := HPM.out.c 6 (by rw [mcs_size]; decide); have m7 : w5.cell? ⟨bm, 7, none⟩ = some (.slice m.r.c0 m.r.cn m.r.cc) := HPM.out.c 7 (by rw [mcs_size]; decide); have m8 : w5.cell? ⟨bm, 8, none⟩ = some (.string ⟨m.r.nm.toArray⟩) := HPM.out.c 8 (by rw [mcs_size]; decide); have m9 : w5.cell? ⟨bm, 9, none⟩ = some (.int .i64 m.r.k.pl) := HPM.out.c 9 (by rw [mcs_size]; decide); have m10 : w5.cell? ⟨bm, 10, none⟩ = some (.string ⟨m.fs.toArray⟩) := HPM.out.c 10 (by rw [mcs_size]; decide); have m11 : w5.cell? ⟨bm, 11, none⟩ = some (.slice m.f0 m.fn m.fc) := HPM.out.c 11 (by rw [mcs_size]; decide); have m12 : w5.cell? ⟨bm, 12, none⟩ = some (.string ⟨m.es.toArray⟩) := HPM.out.c 12 (by rw [mcs_size]; decide); have m13 : w5.cell? ⟨bm, 13, none⟩ = some (.slice m.e0 m.en m.ec) := HPM.out.c 13 (by rw [mcs_size]; decide); have m14 : w5.cell? ⟨bm, 14, none⟩ = some (.int .i64 m.ver) := HPM.out.c 14 (by rw [mcs_size]; decide); have m15 : w5.cell? ⟨bm, 15, none⟩ = some (.string ⟨m.org.toArray⟩) := HPM.out.c 15 (by rw [mcs_size]; decide); have m16 : w5.cell? ⟨bm, 16, none⟩ = some (.int .i64 m.ser) := HPM.out.c 16 (by rw [mcs_size]; decide))
  go_upto_region 6 with (first | (go_at_call 27; refine HRIGHT.out.mono ?_; rintro e w6 ⟨⟨q, rfl⟩, hb6⟩; have HM6 := Lib.hid (HPM.out.below hb6).range; have HT6 := Lib.hid (HT.out.below hb6).there; have HB6 := Lib.hid (btrans HB.out hb6); cases q; (case false => (replace HT := Lib.hid (HT.out.below hb6); replace HB := HB6; clear m0 m1 m2 m3 m4 m5 m6 m7 m8 m9 m10 m11 m12 m13 m14 m15 m16 xk xr HRIGHT; go_upto_region 5 with fail; (refine wp_region_lit ?_; refine wpList_build rfl 33 #[] rfl (by simp [hbuilt]) ?_; refine wpList_store_mid rfl 33 _ _ rfl w.heap.size 0 msgZ rfl (by simp [hbuilt, go_sem]) HT.out.there msg_info (msgS_one 0 [] none 0 0) ?_; have HRG := Lib.hid (World.rangeAt_setCells_same _ w.heap.size 0 msgZ.toList HT.out.there); have HB9 := Lib.hid (HB.out.trans (setCells_below w.heap.size msgZ.toList 0 _)); clear HT HB; generalize World.setCells _ _ _ _ = W9 at *; go_wp2_with fail; refine msg_no rfl rfl HRG.out ?_; exact ⟨.inr rfl, HB9.out⟩)))) | fail)
  clear m0 m1 m2 m3 m4 m5 m6 m7 m8 m9 m10 m11 m12 m13 m14 m15 m16 xk xr
  refine wp_region_lit ?_
  refine wpList_load_mid rfl 33 _ rfl bm 0 rfl (mcs m).toList _ HM6.out Try.underlying33 rfl msg_info ?_
  refine wpList_store_mid rfl 33 _ _ rfl w.heap.size 0 (mcs m) rfl rfl HT6.out msg_info (mcs_one _) ?_
  have hrg := World.rangeAt_setCells_same w6 w.heap.size 0 (mcs m).toList HT6.out
  have hb9 := setCells_below w.heap.size (mcs m).toList 0 w6
  have hfar := fun (q : Addr) (hq : q.block ≠ w.heap.size) => World.cell?_setCells_out w.heap.size (mcs m).toList 0 w6 q (fun h1 => absurd h1 hq)
  have hs9 : w6.heap.size ≤ (w6.setCells w.heap.size 0 (mcs m).toList).heap.size := hb9.size
  generalize World.setCells w6 _ _ _ = W9 at *
  have ht9 : Tells (W4.heap.size + 1) W9 m s [] := (HTT.out.below hb6).rk (fun p hp hn => hfar p (by omega))
  have HRG := Lib.hid hrg; have HB9 := Lib.hid hb9; have HT9 := Lib.hid (ht9.mono (n2 := w.heap.size) (by omega))
  clear hrg hb9 ht9 hfar hs9
  go_wp2_with fail
  refine msg_fin rfl rfl HRG.out ?_
  exact ⟨.inl ⟨m, rfl, HT9.out⟩, HB6.out.trans HB9.out⟩
end Go.Proofs.Ytpbdgbejcdncgaa.Wire
end

section
/- THE WALK OF wire.ReadRule at any bytes. -/
namespace Go.Proofs.Ytpbdgbejcdncgaa.Wire
open Go.RowKit Flt Go.Proofs.Ytpbdgbejcdncgaa.Val Go.Lib
attribute [local go_sem] run_store_flt
/-- how the read of a rule ended, and what it tells -/
def RuleEnd (W4 : World) (bx br : Nat) (s : List UInt8) (x : Option (List UInt8)) (w1 : World) : Prop :=
  ∃ W : World, Below W4.heap.size W4 W ∧ W4.heap.size + 1 < W.heap.size ∧ RL [W4.heap.size + 1, bx, br] W w1 ∧ ∀ rest, x = some rest → ∃ (d : DR) (c0 : Option Addr) (cap : Nat), RuleIs d s rest ∧ BoxM w1 bx (rcs (d.r c0 cap)) ∧ BoxM w1 br #[.bool (Pol.aclB (d.r c0 cap) d.l)] ∧ Conds w1 c0 d.l ∧ (∀ a, c0 = some a → W.heap.size ≤ a.block)
/-- what ReadRule answers -/
def RuleP (w : World) (s : List UInt8) (e : Ending) (w' : World) : Prop :=
  ((∃ (d : DR) (c0 : Option Addr) (cap : Nat), e = .returned (.tuple #[Pol.rv (d.r c0 cap), .bool true]) ∧ RuleIs d s [] ∧ Pol.aclB (d.r c0 cap) d.l = true ∧ Conds w' c0 d.l) ∨ ∃ r : Pol.R, e = .returned (.tuple #[Pol.rv r, .bool false])) ∧ Below w.heap.size w w'
theorem rr_no {R : Ending → World → Prop} {T : Array Value} {W9 : World} {p : Nat} (h2 : T[2]?.getD undef = .pointer (some ⟨p, 0, none⟩)) (h3 : T[3]?.getD undef = .bool false) (hr : W9.rangeAt p 0 ruleZ.toList)
    (hR : R (.returned (.tuple #[.agg ruleZ, .bool false])) W9) :
    bodyPost Try.prog Try.f7 R .ret { tmps := T, defers := [] } W9 := by
  have e0 : W9.cell? ⟨p, 0, none⟩ = some (.int .i64 0) := hr 0 _ rfl
  have e1 : W9.cell? ⟨p, 1, none⟩ = some (.int .i64 0) := hr 1 _ rfl
  have e2 : W9.cell? ⟨p, 2, none⟩ = some (.string ⟨#[]⟩) := hr 2 _ rfl
  have e3 : W9.cell? ⟨p, 3, none⟩ = some (.int .i64 0) := hr 3 _ rfl
  have e4 : W9.cell? ⟨p, 4, none⟩ = some (.string ⟨#[]⟩) := hr 4 _ rfl
  have e5 : W9.cell? ⟨p, 5, none⟩ = some (.slice none 0 0) := hr 5 _ rfl
  have e6 : W9.cell? ⟨p, 6, none⟩ = some (.string ⟨#[]⟩) := hr 6 _ rfl
  have e7 : W9.cell? ⟨p, 7, none⟩ = some (.int .i64 0) := hr 7 _ rfl
  refine bodyPost_ret (v := .tuple #[.agg ruleZ, .bool false]) ?_ rfl hR
  simp [results, Try.results7, go_sem, h2, h3, e0, e1, e2, e3, e4, e5, e6, e7]
theorem rr_fin {R : Ending → World → Prop} {T : Array Value} {W9 : World} {p : Nat} {v0 v1 v2 v3 v4 v5 v6 v7 : Value} (h2 : T[2]?.getD undef = .pointer (some ⟨p, 0, none⟩)) (h3 : T[3]?.getD undef = .bool true) (hr : W9.rangeAt p 0 [v0, v1, v2, v3, v4, v5, v6, v7])
    (hR : R (.returned (.tuple #[.agg #[v0, v1, v2, v3, v4, v5, v6, v7], .bool true])) W9) :
    bodyPost Try.prog Try.f7 R .ret { tmps := T, defers := [] } W9 := by
  have e0 : W9.cell? ⟨p, 0, none⟩ = some v0 := hr 0 v0 rfl
  have e1 : W9.cell? ⟨p, 1, none⟩ = some v1 := hr 1 v1 rfl
  have e2 : W9.cell? ⟨p, 2, none⟩ = some v2 := hr 2 v2 rfl
  have e3 : W9.cell? ⟨p, 3, none⟩ = some v3 := hr 3 v3 rfl
  have e4 : W9.cell? ⟨p, 4, none⟩ = some v4 := hr 4 v4 rfl
  have e5 : W9.cell? ⟨p, 5, none⟩ = some v5 := hr 5 v5 rfl
  have e6 : W9.cell? ⟨p, 6, none⟩ = some v6 := hr 6 v6 rfl
  have e7 : W9.cell? ⟨p, 7, none⟩ = some v7 := hr 7 v7 rfl
  refine bodyPost_ret (v := .tuple #[.agg #[v0, v1, v2, v3, v4, v5, v6, v7], .bool true]) ?_ rfl hR
  simp [results, Try.results7, go_sem, h2, h3, e0, e1, e2, e3, e4, e5, e6, e7]
set_option maxRecDepth 20000 in
set_option maxHeartbeats 4000000 in
theorem readrule_any (a0 : Option Addr) (cap : Nat) (s : List UInt8) (w : World) (hby : BytesAt w a0 s) (hcap : s.length ≤ cap) (hcm : cap ≤ maxLen) (hn : a0 = none → cap = 0) :
    Calls Try.prog 7 #[.slice a0 s.length cap] w fun e w' => RuleP w s e w' := by
  have hmf : ∀ (fn : Fn) (first cap : Array Value) (w : World), (Instr.makeFunc fn first cap).run Try.prog w = .ok (.func fn first cap) w := fun _ _ _ _ => rfl
  have HBY := Lib.hid hby; have HN := Lib.hid hn
  clear hby hn
  go_enter Try.func7, Try.ntmps7
  go_upto_region 3 with fail
  have hp0 := boxm_new w ruleZ 28 (by decide)
  have hp1 := boxm_new (w.alloc (.cells ruleZ 28)) ruleZ 28 (by decide)
  have hp2 := boxm_new ((w.alloc (.cells ruleZ 28)).alloc (.cells ruleZ 28)) #[.bool false] 4 (by decide)
  have hb4 : Below w.heap.size w (((w.alloc (.cells ruleZ 28)).alloc (.cells ruleZ 28)).alloc (.cells #[.bool false] 4)) := btrans (balloc2 _ _ _) (balloc _ _)
  have hq0 := hp0.below (balloc2 _ (.cells ruleZ 28) (.cells #[.bool false] 4))
  have hq1 := hp1.below (balloc _ (.cells #[.bool false] 4))
  simp only [sizeA] at hq1 hp2
  have hs4 : (((w.alloc (.cells ruleZ 28)).alloc (.cells ruleZ 28)).alloc (.cells #[.bool false] 4)).heap.size = w.heap.size + 3 := by simp
  clear hp0 hp1
  generalize World.alloc (World.alloc (World.alloc w _) _) _ = W4 at *
  obtain ⟨bm, hbm⟩ : ∃ bm, bm = w.heap.size + 1 := ⟨_, rfl⟩
  obtain ⟨br, hbr⟩ : ∃ br, br = w.heap.size + 1 + 1 := ⟨_, rfl⟩
  rw [← hbr] at hp2 ⊢
  rw [← hbm] at hq1 ⊢
  have o1 : w.heap.size < bm := by omega
  have o2 : bm < br := by omega
  have o4 : br < W4.heap.size := by omega
  clear hbm hbr hs4
  have hread : Calls Try.prog 19 #[.slice a0 s.length cap, .func (Fn.func 28) #[] #[.pointer (some ⟨bm, 0, none⟩), .pointer (some ⟨br, 0, none⟩)]] W4 fun e w' => ReadP (RuleEnd W4 bm br s) W4.heap.size e w' := read_rule (B := w.heap.size) a0 cap s ⟨bm, 0, none⟩ ⟨br, 0, none⟩ W4 (RuleEnd W4 bm br s) (fun W hbW hrd => by
    have hlt := hrd.lt
    refine (clo_rule (W4.heap.size + 1) bm br s W hrd (hq1.below hbW) (hp2.below hbW) (by omega) (by omega) (by omega) (by omega) (by omega)).mono ?_
    rintro e w' (⟨rfl, hrl, d, rest, c0, cp, h0, h1, h2, h3, h4, h5⟩ | ⟨rfl, hrl⟩)
    all_goals have hblk := hrl.block W4.heap.size (by omega) (by simp only [List.mem_cons, List.not_mem_nil, or_false, not_or]; omega)
    · exact .inl ⟨rest, rfl, h1, World.cell?_of_block (w := W) (a := ⟨W4.heap.size, 0, none⟩) hblk, World.frozen?_of_block (w := W) (a := ⟨W4.heap.size, 0, none⟩) hblk, W, hbW, hlt, hrl, fun r hr => by injection hr with hr; subst hr; exact ⟨d, c0, cp, h0, h2, h3, h4, h5⟩⟩
    · exact .inr ⟨rfl, World.cell?_of_block (w := W) (a := ⟨W4.heap.size, 0, none⟩) hblk, World.frozen?_of_block (w := W) (a := ⟨W4.heap.size, 0, none⟩) hblk, W, hbW, hlt, hrl, fun r hr => by cases hr⟩)
    ((HBY.out).below hb4) hcap hcm HN.out (by omega) (bytes_low HBY.out)
  have HREAD := Lib.hid hread; have HQ0 := Lib.hid hq0; have HB4 := Lib.hid hb4
  clear hread hq0 hq1 hp2 hb4
  have hbuilt : Try.prog.built 28 [] = some ruleZ := by kernel_rfl
  go_upto_region 5 with (go_loud (go_at_call 19; refine HREAD.out.mono ?_; rintro e w5 ⟨ok, x, w1, rfl, ⟨W, hbW, hWl, hrl, hm⟩, hok1, hrk⟩; have hw1 : W.heap.size ≤ w1.heap.size := hrl.size; have hsW := hbW.size; have hmem : w.heap.size ∉ [W4.heap.size + 1, bm, br] := (by simp only [List.mem_cons, List.not_mem_nil, or_false, not_or]; omega); have HT := Lib.hid (((HQ0.out.below hbW).rl hrl hmem).rk hrk (by omega)); have HB : Hid (Below w.heap.size w w5) := Lib.hid (HB4.out.trans ((hbW.mono (by omega)).trans ((hrl.low (by omega) (by intro q hq; simp only [List.mem_cons, List.not_mem_nil, or_false] at hq; omega)).trans (hrk.below (by omega) (by omega))))); clear hmem HREAD HQ0 HB4 hbW; cases ok; (case false => (clear hm hok1 hrl hrk; go_upto_region 4 with fail; (refine wp_region_lit ?_; refine wpList_build rfl 28 #[] rfl (by simp [hbuilt]) ?_; refine wpList_store_mid rfl 28 _ _ rfl w.heap.size 0 ruleZ rfl (by simp [hbuilt, go_sem]) HT.out.there rule_info (rcs_one ⟨⟨0, 0, [], 0⟩, 0, [], none, 0, 0, []⟩) ?_; have HRG := Lib.hid (World.rangeAt_setCells_same _ w.heap.size 0 ruleZ.toList HT.out.there); have HB9 := Lib.hid (HB.out.trans (setCells_below w.heap.size ruleZ.toList 0 _)); clear HT HB; generalize World.setCells _ _ _ _ = W9 at *; go_wp2_with fail; refine rr_no rfl rfl HRG.out ?_; exact ⟨.inr ⟨⟨⟨0, 0, [], 0⟩, 0, [], none, 0, 0, []⟩, rfl⟩, HB9.out⟩))); have hx := hok1.1 rfl; subst hx; obtain ⟨d, c0, cp, h0, h1, h2, h3, h4⟩ := hm [] rfl; clear hm hok1; have hr5 := h2.rk hrk (by omega); generalize hAC : Pol.aclB (d.r c0 cp) d.l = ac at *; have xr : w5.cell? ⟨br, 0, none⟩ = some (.bool ac) := hr5.c 0 (by simp); cases ac; (case false => (clear hrl hrk h0 h1 h2 h3 h4 hr5 hAC; go_upto_region 4 with fail; (refine wp_region_lit ?_; refine wpList_build rfl 28 #[] rfl (by simp [hbuilt]) ?_; refine wpList_store_mid rfl 28 _ _ rfl w.heap.size 0 ruleZ rfl (by simp [hbuilt, go_sem]) HT.out.there rule_info (rcs_one ⟨⟨0, 0, [], 0⟩, 0, [], none, 0, 0, []⟩) ?_; have HRG := Lib.hid (World.rangeAt_setCells_same _ w.heap.size 0 ruleZ.toList HT.out.there); have HB9 := Lib.hid (HB.out.trans (setCells_below w.heap.size ruleZ.toList 0 _)); clear HT HB; generalize World.setCells _ _ _ _ = W9 at *; go_wp2_with fail; refine rr_no rfl rfl HRG.out ?_; exact ⟨.inr ⟨⟨⟨0, 0, [], 0⟩, 0, [], none, 0, 0, []⟩, rfl⟩, HB9.out⟩))); have HM5 := Lib.hid (h1.rk hrk (by omega)); have HC5 : Hid (Conds w5 c0 d.l) := Lib.hid (conds_keep h3 (fun a e p hp hlt => hrk.cell hlt (by rw [hp]; have := h4 a e; omega))); have HAC := Lib.hid hAC; have HRI := Lib.hid h0; have HBL := Lib.hid (show ∀ a, c0 = some a → w.heap.size < a.block from fun a e => by have := h4 a e; omega); clear hr5 h0 h1 h2 h3 h4 hrl hrk hAC))
  refine wp_region_lit ?_
  refine wpList_load_mid rfl 28 _ rfl bm 0 rfl (rcs (d.r c0 cp)).toList _ HM5.out.range Try.underlying28 rfl rule_info ?_
  refine wpList_store_mid rfl 28 _ _ rfl w.heap.size 0 (rcs (d.r c0 cp)) rfl rfl HT.out.there rule_info (rcs_one _) ?_
  have hrg := World.rangeAt_setCells_same w5 w.heap.size 0 (rcs (d.r c0 cp)).toList HT.out.there
  have hb9 := setCells_below w.heap.size (rcs (d.r c0 cp)).toList 0 w5
  have hfar := fun (q : Addr) (hq : q.block ≠ w.heap.size) => World.cell?_setCells_out w.heap.size (rcs (d.r c0 cp)).toList 0 w5 q (fun h1 => absurd h1 hq)
  generalize World.setCells w5 _ _ _ = W9 at *
  have hc9 : Conds W9 c0 d.l := conds_keep HC5.out (fun a e p hp _ => hfar p (by rw [hp]; have := HBL.out a e; omega))
  have HRG := Lib.hid hrg; have HB9 := Lib.hid hb9; have HC9 := Lib.hid hc9
  clear hrg hb9 hc9 hfar
  go_wp2_with fail
  refine rr_fin rfl rfl HRG.out ?_
  exact ⟨.inl ⟨d, c0, cp, rfl, HRI.out, HAC.out, HC9.out⟩, HB.out.trans HB9.out⟩
end Go.Proofs.Ytpbdgbejcdncgaa.Wire
end

section
/- WHAT WAS READ IS WRITTEN AS ITS BYTES: messages and rules. -/
namespace Go.Proofs.Ytpbdgbejcdncgaa.Wire
open Go.RowKit Flt Go.Proofs.Ytpbdgbejcdncgaa.Val Go.Lib
/-- bytes as a text -/
theorem conv_by {w : World} {a0 : Option Addr} {cap : Nat} {s : List UInt8} (h : BytesAt w a0 s) (hn : a0 = none → s = [] ∧ cap = 0) :
    (convert 22 9 (.slice a0 s.length cap)).run Try.prog w = .ok (.string ⟨s.toArray⟩) w := by
  cases a0 with
  | none =>
    obtain ⟨rfl, rfl⟩ := hn rfl
    exact (show ∀ W, (convert 22 9 (.slice none 0 0)).run Try.prog W = .ok (.string ⟨#[]⟩) W from fun W => by kernel_rfl) w
  | some a =>
    exact run_convert_bytes_back w 22 9 5 a cap s Try.underlying22 Try.underlying5 Try.underlying9 (fun j hj => by
      obtain ⟨a2, e, h2⟩ := h j hj
      injection e with e
      subst e
      exact h2)
theorem conv_lays {w : World} {a0 : Option Addr} {cap : Nat} {s : List UInt8} (h : BytesAt w a0 s) (hs : s ≠ []) :
    (convert 22 9 (.slice a0 s.length cap)).run Try.prog w = .ok (.string ⟨s.toArray⟩) w :=
  conv_by h (fun e => by
    obtain ⟨a, e2, _⟩ := h 0 (List.length_pos_iff.2 hs)
    rw [e] at e2; cases e2)
theorem tells_ne {n : Nat} {w : World} {m : M} {s rest : List UInt8} (h : Tells n w m s rest) : s ≠ [] := by
  intro e
  subst e
  rcases h with ⟨_, cs, _, _, _, h, _⟩ | ⟨_, cs, _, _, _, h, _⟩ | ⟨_, l, _, _, _, h, _⟩
  all_goals simp at h
theorem msg_back (m : M) (n : Nat) (w : World) (s : List UInt8) (H : Tells n w m s []) (hs : s.length ≤ 1500) :
    Calls Try.prog 8 #[mv m] w fun e w' => Lays w s e w' := by
  rcases H with ⟨h, cs, h1, h2, _, h4, h5, h6⟩ | ⟨h, cs, h1, h2, _, h4, h5, h6, _⟩ | ⟨h, l, h1, h2, _, h4, h5, h6, _⟩
  all_goals rw [List.append_nil] at h4
  · have hl := congrArg List.length h4
    simp only [List.length_append, List.length_singleton] at hl
    rw [h4]
    exact msg_policy m cs w h h1 h2 h5 (by omega) (by omega)
  · have hl := congrArg List.length h4
    simp only [List.length_append, List.length_singleton] at hl
    rw [h4]
    exact msg_sub m cs w (by omega) (by omega) h1 h2 h5 (by omega) (by omega)
  · have hl := congrArg List.length h4
    simp only [List.length_append, List.length_singleton, encText_len, encLong_len] at hl
    rw [h4]
    exact msg_event m l w h h1 h2 h5 (by omega) (by omega)
theorem rule_back {d : DR} {c0 : Option Addr} {cap : Nat} {s : List UInt8} {w : World} (h : RuleIs d s []) (hc : Conds w c0 d.l) (hs : s.length ≤ 1500) :
    Calls Try.prog 9 #[Pol.rv (d.r c0 cap)] w fun e w' => Lays w s e w' := by
  have h4 := h.enc c0 cap
  rw [List.append_nil] at h4
  have hl := congrArg List.length h4
  have hb := ruleb_any (d.r c0 cap) d.l w hc rfl h.num (by omega) (by have := h.few; omega)
  rw [← h4] at hb
  exact hb
theorem ruleis_ne {d : DR} {s : List UInt8} (h : RuleIs d s []) : s ≠ [] := by
  intro e
  have h4 := h.enc none 0
  rw [e] at h4
  simp [encRule] at h4
theorem rule_right {d : DR} {c0 : Option Addr} {cap : Nat} {s rest : List UInt8} {w : World} (h : RuleIs d s rest) (hc : Conds w c0 d.l) :
    Calls Try.prog 10 #[Pol.rv (d.r c0 cap)] w fun e w' => e = .returned (.bool (Pol.aclB (d.r c0 cap) d.l)) ∧ Below w.heap.size w w' :=
  Pol.right_any (d.r c0 cap) d.l w hc rfl (by have := h.few; omega) (by have := h.sf; show d.sf.length ≤ _; omega) (by have := h.who; show d.who.length ≤ _; omega) (by have := h.nm; show d.nm.length ≤ _; omega) h.ok
/-- ReadMsg's answer, in one -/
theorem msg_one {w w' : World} {s : List UInt8} {e : Ending} (h : MsgP w s e w') : ∃ (m : M) (ok : Bool), e = .returned (.tuple #[.agg (mcs m), .bool ok]) ∧ (ok = true → Tells w.heap.size w' m s []) ∧ (ok = false → m.kind = 0 ∧ m.org = [] ∧ m.at_ = 0) ∧ Below w.heap.size w w' := by
  rcases h with ⟨⟨m, h1, h2⟩ | h1, hb⟩
  · exact ⟨m, true, h1, fun _ => h2, (fun h => by cases h), hb⟩
  · exact ⟨⟨0, 0, ⟨⟨0, 0, [], 0⟩, 0, [], none, 0, 0, []⟩, [], none, 0, 0, [], none, 0, 0, 0, [], 0⟩, false, h1, (fun h => by cases h), fun _ => ⟨rfl, rfl, rfl⟩, hb⟩
/-- ReadRule's answer, in one -/
theorem rule_one {w w' : World} {s : List UInt8} {e : Ending} (h : RuleP w s e w') : ∃ (r : Pol.R) (is : Bool), e = .returned (.tuple #[.agg (rcs r), .bool is]) ∧ (is = true → ∃ (d : DR) (c0 : Option Addr) (cap : Nat), r = d.r c0 cap ∧ RuleIs d s [] ∧ Pol.aclB (d.r c0 cap) d.l = true ∧ Conds w' c0 d.l) ∧ Below w.heap.size w w' := by
  rcases h with ⟨⟨d, c0, cap, h1, h2, h3, h4⟩ | ⟨r, h1⟩, hb⟩
  · exact ⟨d.r c0 cap, true, h1, fun _ => ⟨d, c0, cap, rfl, h2, h3, h4⟩, hb⟩
  · exact ⟨r, false, h1, (fun h => by cases h), hb⟩
end Go.Proofs.Ytpbdgbejcdncgaa.Wire
end

section
/- THE WALK OF the fit of chapter 16's laws. -/
namespace Go.Proofs.Ytpbdgbejcdncgaa.Wire
open Go.RowKit Flt Go.Proofs.Ytpbdgbejcdncgaa.Val Go.Lib
attribute [local go_sem] run_store_flt
theorem conds_no (w : World) (a : Option Addr) : Conds w a [] := fun i hi => absurd hi (by simp)
theorem read_fit (w : World) (b : Nat) (T : TypeId) (hb : b = w.heap.size) :
    Calls Try.prog 6 #[.slice (some ⟨b, 0, none⟩) 3 3] (w.alloc (.cells #[.int .u8 1, .int .u8 0, .int .u8 0] T)) fun e w' => ∃ (c0 : Option Addr) (cp : Nat), e = .returned (.tuple #[.agg (msgL 1 0 0 0 [] 0 [] none 0 0 [] 0 [] c0 0 cp [] none 0 0 0 [] 0), .bool true]) ∧ Below w.heap.size w w' := by
  subst hb
  have hby : BytesAt (w.alloc (.cells #[.int .u8 1, .int .u8 0, .int .u8 0] T)) (some ⟨w.heap.size, 0, none⟩) [1, 0, 0] := by
    intro i hi
    have c : ∀ o, (w.alloc (.cells #[.int .u8 1, .int .u8 0, .int .u8 0] T)).cell? ⟨w.heap.size, o, none⟩ = #[Value.int .u8 1, .int .u8 0, .int .u8 0][o]? := fun o => World.cell?_alloc_at _ _ _ _ rfl
    refine ⟨_, rfl, ?_⟩
    rcases i with _ | _ | _ | i
    · exact c 0
    · exact c 1
    · exact c 2
    · simp only [List.length_cons, List.length_nil] at hi; omega
  have h := readmsg_sub (some ⟨w.heap.size, 0, none⟩) 3 1 [0, 0] [] [] _ (.inl rfl) (by rfl) (by rfl) hby (by decide) (by decide) (fun h => by cases h) (by decide) (by decide) (by simp)
  refine h.mono ?_
  rintro e w' ⟨⟨c0, cp, rfl, _, _⟩, hb⟩
  exact ⟨c0, cp, rfl, btrans (balloc _ _) hb⟩
theorem msg_fit (c0 : Option Addr) (cp : Nat) (w : World) :
    Calls Try.prog 8 #[.agg (msgL 1 0 0 0 [] 0 [] none 0 0 [] 0 [] c0 0 cp [] none 0 0 0 [] 0)] w fun e w' => ∃ a c, e = .returned (.slice a 3 c) ∧ Below w.heap.size w w' := by
  refine (msg_sub ⟨1, 0, ⟨⟨0, 0, [], 0⟩, 0, [], none, 0, 0, []⟩, [], c0, 0, cp, [], none, 0, 0, 0, [], 0⟩ [] w (by show (1 : Int) ≠ 0; decide) (by show (1 : Int) ≠ 3; decide) (conds_no _ _) rfl (by simp) (by show 1 + (encFilter [] []).length ≤ 1000000; decide) (by decide)).mono ?_
  rintro e w' ⟨⟨a, c, rfl, _⟩, hb⟩
  exact ⟨a, c, rfl, hb⟩
theorem right_fit (w : World) : Calls Try.prog 10 #[Pol.rv ⟨⟨4, 0, [], 0⟩, 0, [], none, 0, 0, []⟩] w fun e w' => e = .returned (.bool true) ∧ Below w.heap.size w w' :=
  Pol.right_any ⟨⟨4, 0, [], 0⟩, 0, [], none, 0, 0, []⟩ [] w (conds_no _ _) rfl (by decide) (by decide) (by decide) (by decide) (by simp)
theorem event_fit (w : World) : Calls Try.prog 16 #[ev [] none 0 0] w fun e w' => ∃ a c, e = .returned (.slice a 2 c) ∧ Below w.heap.size w w' := by
  refine (eventb_any [] none 0 [] w (fun i hi => absurd hi (by simp)) (by simp) (by decide) (by decide)).mono ?_
  rintro e w' ⟨⟨a, c, rfl, _⟩, hb⟩
  exact ⟨a, c, rfl, hb⟩
set_option maxRecDepth 20000 in
set_option maxHeartbeats 4000000 in
theorem fit16_any (w : World) : Calls Try.prog 5 #[] w fun e w' => e = .returned (.bool true) ∧ Below w.heap.size w w' := by
  have n1 : Sc.nameB [97] = true := by decide
  have n2 : Sc.rightB [] = true := by decide
  go_enter Try.func5, Try.ntmps5
  go_wp2_with fail
  refine (read_fit _ _ _ (by simp)).mono ?_
  rintro e w1 ⟨c0, cp, rfl, hb1⟩
  go_wp2_with (first | (go_at_call 8; refine (msg_fit c0 cp _).mono ?_; rintro e w2 ⟨a2, c2, rfl, hb2⟩) | (go_at_call 10; refine (right_fit _).mono ?_; rintro e w3 ⟨rfl, hb3⟩) | (go_at_call 17; refine (Sc.name_l [97] _ (by decide)).mono ?_; rintro e w4 ⟨rfl, rfl⟩) | (go_at_call 18; refine (Sc.right_l [] _ (by decide)).mono ?_; rintro e w5 ⟨rfl, ⟨nd, rfl⟩⟩) | (go_at_call 16; refine (event_fit _).mono ?_; rintro e w6 ⟨a6, c6, rfl, hb6⟩))
  go_ret
  exact ⟨rfl, btrans (bdrewN (btrans (btrans hb1 (btrans (balloc _ _) hb2)) hb3) _) hb6⟩
end Go.Proofs.Ytpbdgbejcdncgaa.Wire
end
