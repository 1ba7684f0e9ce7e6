/- MERGED BY A PROGRAM OF MINE (pmg.py) out of my own texts, pruned, in their order: Apart. -/
import Derived.Test.YtpbdgbejcdncgaaGreatDoorMgWireApart4
import Derived.Test.YtpbdgbejcdncgaaGreatDoorCPrint
import Derived.Deep.DeepCutAuto
import Derived.Deep.LoopGhost

section
/- THE WALK OF gazettelaw16.WireApart. -/
namespace Go.Proofs.YtpbdgbejcdncgaaGreatDoor.Wire
open Go.RowKit Flt Go.Proofs.YtpbdgbejcdncgaaGreatDoor.Val Go.Lib
attribute [local go_sem] run_store_flt
theorem s8_of {W9 w' : World} {pa pb px py : Nat} {K1 K2 : Int} {s1 s2 : List UInt8} {n1 n2 : Option Addr} {N1 N2 : List C} {cn1 cn2 : Nat} (hA : BoxM W9 pa #[.string ⟨s1.toArray⟩, .slice n1 N1.length cn1]) (hB : BoxM W9 pb #[.string ⟨s2.toArray⟩, .slice n2 N2.length cn2]) (hX : BoxM W9 px #[.int .i64 K1, .int .i64 0, .int .i64 0, .int .i64 0, .string ⟨#[]⟩, .int .i64 0, .string ⟨#[]⟩, .slice none 0 0, .string ⟨#[]⟩, .int .i64 0, .string ⟨s1.toArray⟩, .slice n1 N1.length cn1, .string ⟨#[]⟩, .slice none 0 0, .int .i64 0, .string ⟨#[]⟩, .int .i64 0]) (hY : BoxM W9 py #[.int .i64 K2, .int .i64 0, .int .i64 0, .int .i64 0, .string ⟨#[]⟩, .int .i64 0, .string ⟨#[]⟩, .slice none 0 0, .string ⟨#[]⟩, .int .i64 0, .string ⟨s2.toArray⟩, .slice n2 N2.length cn2, .string ⟨#[]⟩, .slice none 0 0, .int .i64 0, .string ⟨#[]⟩, .int .i64 0]) (hb : Below W9.heap.size W9 w') : (fun w' => w'.cell? ⟨pa, 0, none⟩ = some (.string ⟨s1.toArray⟩) ∧ w'.cell? ⟨pa, 1, none⟩ = some (.slice n1 N1.length cn1) ∧ w'.cell? ⟨pb, 0, none⟩ = some (.string ⟨s2.toArray⟩) ∧ w'.cell? ⟨pb, 1, none⟩ = some (.slice n2 N2.length cn2) ∧ w'.cell? ⟨px, 0, none⟩ = some (.int .i64 K1) ∧ w'.cell? ⟨py, 0, none⟩ = some (.int .i64 K2) ∧ Below W9.heap.size W9 w') w' := by
  have a := (hA.below hb).c; have b := (hB.below hb).c; have x := (hX.below hb).c; have y := (hY.below hb).c
  exact ⟨a 0 (by simp), a 1 (by simp), b 0 (by simp), b 1 (by simp), x 0 (by simp), y 0 (by simp), hb⟩
theorem s8_own {W9 w' : World} {pa pb px py : Nat} {K1 K2 : Int} {s1 s2 : List UInt8} {n1 n2 : Option Addr} {N1 N2 : List C} {cn1 cn2 : Nat} (h : (fun w' => w'.cell? ⟨pa, 0, none⟩ = some (.string ⟨s1.toArray⟩) ∧ w'.cell? ⟨pa, 1, none⟩ = some (.slice n1 N1.length cn1) ∧ w'.cell? ⟨pb, 0, none⟩ = some (.string ⟨s2.toArray⟩) ∧ w'.cell? ⟨pb, 1, none⟩ = some (.slice n2 N2.length cn2) ∧ w'.cell? ⟨px, 0, none⟩ = some (.int .i64 K1) ∧ w'.cell? ⟨py, 0, none⟩ = some (.int .i64 K2) ∧ Below W9.heap.size W9 w') w') : Below W9.heap.size W9 w' := h.2.2.2.2.2.2
theorem s9_of {W9 w' : World} {px py : Nat} {K1 K2 : Int} {s1 s2 : List UInt8} {n1 n2 : Option Addr} {N1 N2 : List C} {cn1 cn2 : Nat} (hX : BoxM W9 px #[.int .i64 K1, .int .i64 0, .int .i64 0, .int .i64 0, .string ⟨#[]⟩, .int .i64 0, .string ⟨#[]⟩, .slice none 0 0, .string ⟨#[]⟩, .int .i64 0, .string ⟨s1.toArray⟩, .slice n1 N1.length cn1, .string ⟨#[]⟩, .slice none 0 0, .int .i64 0, .string ⟨#[]⟩, .int .i64 0]) (hY : BoxM W9 py #[.int .i64 K2, .int .i64 0, .int .i64 0, .int .i64 0, .string ⟨#[]⟩, .int .i64 0, .string ⟨#[]⟩, .slice none 0 0, .string ⟨#[]⟩, .int .i64 0, .string ⟨s2.toArray⟩, .slice n2 N2.length cn2, .string ⟨#[]⟩, .slice none 0 0, .int .i64 0, .string ⟨#[]⟩, .int .i64 0]) (hb : Below W9.heap.size W9 w') : (fun w' => w'.cell? ⟨px, 0, none⟩ = some (.int .i64 K1) ∧ w'.cell? ⟨px, 1, none⟩ = some (.int .i64 0) ∧ w'.cell? ⟨px, 2, none⟩ = some (.int .i64 0) ∧ w'.cell? ⟨px, 3, none⟩ = some (.int .i64 0) ∧ w'.cell? ⟨px, 4, none⟩ = some (.string ⟨#[]⟩) ∧ w'.cell? ⟨px, 5, none⟩ = some (.int .i64 0) ∧ w'.cell? ⟨px, 6, none⟩ = some (.string ⟨#[]⟩) ∧ w'.cell? ⟨px, 7, none⟩ = some (.slice none 0 0) ∧ w'.cell? ⟨px, 8, none⟩ = some (.string ⟨#[]⟩) ∧ w'.cell? ⟨px, 9, none⟩ = some (.int .i64 0) ∧ w'.cell? ⟨px, 10, none⟩ = some (.string ⟨s1.toArray⟩) ∧ w'.cell? ⟨px, 11, none⟩ = some (.slice n1 N1.length cn1) ∧ w'.cell? ⟨px, 12, none⟩ = some (.string ⟨#[]⟩) ∧ w'.cell? ⟨px, 13, none⟩ = some (.slice none 0 0) ∧ w'.cell? ⟨px, 14, none⟩ = some (.int .i64 0) ∧ w'.cell? ⟨px, 15, none⟩ = some (.string ⟨#[]⟩) ∧ w'.cell? ⟨px, 16, none⟩ = some (.int .i64 0) ∧ w'.cell? ⟨py, 0, none⟩ = some (.int .i64 K2) ∧ w'.cell? ⟨py, 1, none⟩ = some (.int .i64 0) ∧ w'.cell? ⟨py, 2, none⟩ = some (.int .i64 0) ∧ w'.cell? ⟨py, 3, none⟩ = some (.int .i64 0) ∧ w'.cell? ⟨py, 4, none⟩ = some (.string ⟨#[]⟩) ∧ w'.cell? ⟨py, 5, none⟩ = some (.int .i64 0) ∧ w'.cell? ⟨py, 6, none⟩ = some (.string ⟨#[]⟩) ∧ w'.cell? ⟨py, 7, none⟩ = some (.slice none 0 0) ∧ w'.cell? ⟨py, 8, none⟩ = some (.string ⟨#[]⟩) ∧ w'.cell? ⟨py, 9, none⟩ = some (.int .i64 0) ∧ w'.cell? ⟨py, 10, none⟩ = some (.string ⟨s2.toArray⟩) ∧ w'.cell? ⟨py, 11, none⟩ = some (.slice n2 N2.length cn2) ∧ w'.cell? ⟨py, 12, none⟩ = some (.string ⟨#[]⟩) ∧ w'.cell? ⟨py, 13, none⟩ = some (.slice none 0 0) ∧ w'.cell? ⟨py, 14, none⟩ = some (.int .i64 0) ∧ w'.cell? ⟨py, 15, none⟩ = some (.string ⟨#[]⟩) ∧ w'.cell? ⟨py, 16, none⟩ = some (.int .i64 0) ∧ Below W9.heap.size W9 w') w' := by
  have x := (hX.below hb).c; have y := (hY.below hb).c
  exact ⟨x 0 (by simp), x 1 (by simp), x 2 (by simp), x 3 (by simp), x 4 (by simp), x 5 (by simp), x 6 (by simp), x 7 (by simp), x 8 (by simp), x 9 (by simp), x 10 (by simp), x 11 (by simp), x 12 (by simp), x 13 (by simp), x 14 (by simp), x 15 (by simp), x 16 (by simp), y 0 (by simp), y 1 (by simp), y 2 (by simp), y 3 (by simp), y 4 (by simp), y 5 (by simp), y 6 (by simp), y 7 (by simp), y 8 (by simp), y 9 (by simp), y 10 (by simp), y 11 (by simp), y 12 (by simp), y 13 (by simp), y 14 (by simp), y 15 (by simp), y 16 (by simp), hb⟩
theorem s9_own {W9 w' : World} {px py : Nat} {K1 K2 : Int} {s1 s2 : List UInt8} {n1 n2 : Option Addr} {N1 N2 : List C} {cn1 cn2 : Nat} (h : (fun w' => w'.cell? ⟨px, 0, none⟩ = some (.int .i64 K1) ∧ w'.cell? ⟨px, 1, none⟩ = some (.int .i64 0) ∧ w'.cell? ⟨px, 2, none⟩ = some (.int .i64 0) ∧ w'.cell? ⟨px, 3, none⟩ = some (.int .i64 0) ∧ w'.cell? ⟨px, 4, none⟩ = some (.string ⟨#[]⟩) ∧ w'.cell? ⟨px, 5, none⟩ = some (.int .i64 0) ∧ w'.cell? ⟨px, 6, none⟩ = some (.string ⟨#[]⟩) ∧ w'.cell? ⟨px, 7, none⟩ = some (.slice none 0 0) ∧ w'.cell? ⟨px, 8, none⟩ = some (.string ⟨#[]⟩) ∧ w'.cell? ⟨px, 9, none⟩ = some (.int .i64 0) ∧ w'.cell? ⟨px, 10, none⟩ = some (.string ⟨s1.toArray⟩) ∧ w'.cell? ⟨px, 11, none⟩ = some (.slice n1 N1.length cn1) ∧ w'.cell? ⟨px, 12, none⟩ = some (.string ⟨#[]⟩) ∧ w'.cell? ⟨px, 13, none⟩ = some (.slice none 0 0) ∧ w'.cell? ⟨px, 14, none⟩ = some (.int .i64 0) ∧ w'.cell? ⟨px, 15, none⟩ = some (.string ⟨#[]⟩) ∧ w'.cell? ⟨px, 16, none⟩ = some (.int .i64 0) ∧ w'.cell? ⟨py, 0, none⟩ = some (.int .i64 K2) ∧ w'.cell? ⟨py, 1, none⟩ = some (.int .i64 0) ∧ w'.cell? ⟨py, 2, none⟩ = some (.int .i64 0) ∧ w'.cell? ⟨py, 3, none⟩ = some (.int .i64 0) ∧ w'.cell? ⟨py, 4, none⟩ = some (.string ⟨#[]⟩) ∧ w'.cell? ⟨py, 5, none⟩ = some (.int .i64 0) ∧ w'.cell? ⟨py, 6, none⟩ = some (.string ⟨#[]⟩) ∧ w'.cell? ⟨py, 7, none⟩ = some (.slice none 0 0) ∧ w'.cell? ⟨py, 8, none⟩ = some (.string ⟨#[]⟩) ∧ w'.cell? ⟨py, 9, none⟩ = some (.int .i64 0) ∧ w'.cell? ⟨py, 10, none⟩ = some (.string ⟨s2.toArray⟩) ∧ w'.cell? ⟨py, 11, none⟩ = some (.slice n2 N2.length cn2) ∧ w'.cell? ⟨py, 12, none⟩ = some (.string ⟨#[]⟩) ∧ w'.cell? ⟨py, 13, none⟩ = some (.slice none 0 0) ∧ w'.cell? ⟨py, 14, none⟩ = some (.int .i64 0) ∧ w'.cell? ⟨py, 15, none⟩ = some (.string ⟨#[]⟩) ∧ w'.cell? ⟨py, 16, none⟩ = some (.int .i64 0) ∧ Below W9.heap.size W9 w') w') : Below W9.heap.size W9 w' := h.2.2.2.2.2.2.2.2.2.2.2.2.2.2.2.2.2.2.2.2.2.2.2.2.2.2.2.2.2.2.2.2.2.2
/-- conditions do not lie in a box of two cells -/
theorem conds_off2 {W : World} {q : Nat} {v0 v1 : Value} {T : TypeId} (h : W.heap[q]? = some (.cells #[v0, v1] T (0, 0))) {b : Option Addr} {L : List C} (hc : Conds W b L) : L = [] ∨ ∀ a, b = some a → a.block ≠ q := by
  cases L with
  | nil => exact .inl rfl
  | cons c r =>
    refine .inr fun a ha e => ?_
    obtain ⟨a', e', hat⟩ := hc 0 (by simp)
    rw [ha] at e'
    cases e'
    have h6 := hat.2.2.2.2.2.2
    have hb : (a.add (0 * 7)).block = q := by
      rw [← e]; unfold Addr.add; split <;> rfl
    rw [hb] at h6
    simp [World.cell?, h] at h6
theorem set_two {W : World} {q : Nat} {s t : List UInt8} {b b2 : Option Addr} {n cp n2 cp2 : Nat} (h : BoxM W q #[.string ⟨s.toArray⟩, .slice b n cp]) : BoxM ((W.setCell ⟨q, 0, none⟩ (.string ⟨t.toArray⟩)).setCell ⟨q, 1, none⟩ (.slice b2 n2 cp2)) q #[.string ⟨t.toArray⟩, .slice b2 n2 cp2] :=
  (h.set (i := 0) (u := .string ⟨t.toArray⟩) (by simp)).set (i := 1) (u := .slice b2 n2 cp2) (by simp)
theorem conds_two {W : World} {q : Nat} {u v : Value} {b : Option Addr} {L : List C} (hc : Conds W b L) (ho : L = [] ∨ ∀ a, b = some a → a.block ≠ q) : Conds ((W.setCell ⟨q, 0, none⟩ u).setCell ⟨q, 1, none⟩ v) b L := by
  rcases ho with e | e
  · rw [e]; exact fun i hi => absurd hi (by simp)
  · exact conds_keep hc (fun a ea p hp _ => (World.cell?_setCell_other _ _ _ _ (by intro e2; have := e a ea; rw [← e2] at hp; exact this hp.symm)).trans (World.cell?_setCell_other _ _ _ _ (by intro e2; have := e a ea; rw [← e2] at hp; exact this hp.symm)))
/-- Print of what Norm answers -/
theorem nprint_any (sf : List UInt8) (b0 : Option Addr) (cp : Nat) (L : List C) (W : World) (hw : Words W) (hT : Tab.Tabs W) (hc : Conds W b0 (normL L)) (hlm : L.length ≤ 19) (hs : ∀ c ∈ L, CSmall c ∧ 0 ≤ c.op ∧ c.op ≤ 7) (hsf : sf.length ≤ 1000000) :
    Calls Tryz.prog 8 #[ev sf b0 (normL L).length cp] W fun e w' => e = .returned (.string ⟨(keyT sf L).toArray⟩) ∧ Below W.heap.size W w' := by
  have hm : ∀ c ∈ normL L, CSmall c ∧ 0 ≤ c.op ∧ c.op ≤ 7 := fun c hc => by
    obtain ⟨d, hd, rfl⟩ := normL_mem L c hc
    exact canon_small (hs d hd)
  exact fprint_any sf b0 cp (normL L) cT W hw hc (by have := normL_len L; omega) hsf (fun c hc2 => by
      obtain ⟨⟨q1, q2, q3, q4, q5⟩, _⟩ := hm c hc2
      have := vT_len c.val q4 q5
      have h3 := wordB_len c.op
      unfold cT hasT
      split
      · simp only [List.length_append, List.length_cons, List.length_nil]; omega
      · simp only [List.length_append, List.length_cons, List.length_nil]; omega) (fun c hc2 W2 hw2 hb2 => by
      obtain ⟨⟨q1, q2, q3, q4, q5⟩, _⟩ := hm c hc2
      exact cprint_any c.name c.op c.val.kind c.val.int c.val.num c.val.text c.val.yes W2 hw2 (hT.below hb2 (Nat.le_refl _)) (by omega) (by omega) q3 q4 q5)
/-- what the law asks, of filters that may be -/
theorem apart_same {s1 s2 : List UInt8} {l1 l2 : List C} (r1 : fRight s1 l1 = true) (r2 : fRight s2 l2 = true) (ok1 : ∀ x ∈ l1, Open.COk x) (ok2 : ∀ x ∈ l2, Open.COk x) : keyT s1 l1 = keyT s2 l2 ↔ encFilter s1 (normL l1) = encFilter s2 (normL l2) := by
  obtain ⟨t1, t2, t3, _⟩ := fright_small r1 ok1 (fun c hc => (ok1 c hc).2.2.2.2.1)
  obtain ⟨u1, u2, u3, _⟩ := fright_small r2 ok2 (fun c hc => (ok2 c hc).2.2.2.2.1)
  have q1 : Sc.rightB s1 = true := by
    unfold fRight at r1
    simp only [Bool.and_eq_true] at r1
    exact r1.2.1
  have q2 : Sc.rightB s2 = true := by
    unfold fRight at r2
    simp only [Bool.and_eq_true] at r2
    exact r2.2.1
  constructor
  · intro h
    obtain ⟨e1, e2⟩ := keyT_inj t3 u3 q1 q2 h
    rw [e1, e2]
  · intro h
    have n1 := normL_len l1; have n2 := normL_len l2
    obtain ⟨e1, e2⟩ := encFilter_inj (sc_less q1) (sc_less q2) (by omega) (by omega) (norm_cb t3 (fun c hc => ⟨(ok1 c hc).2.2.2.1.1, (ok1 c hc).2.2.2.1.2⟩)) (norm_cb u3 (fun c hc => ⟨(ok2 c hc).2.2.2.1.1, (ok2 c hc).2.2.2.1.2⟩)) h
    unfold keyT
    rw [e1, e2]
theorem cut_end {w wx : World} {pa pb pc : Nat} {s1 s2 : List UInt8} {a1 a2 n1 n2 : Option Addr} {L1 L2 c1 c2 cn1 cn2 : Nat} {N1 N2 : List C} {m0 m1 : Int} (hA : BoxM wx pa #[.string ⟨s1.toArray⟩, .slice a1 L1 c1]) (hB : BoxM wx pb #[.string ⟨s2.toArray⟩, .slice a2 L2 c2]) (hC : BoxM wx pc #[.int .i64 m0, .int .i64 m1]) (h1 : Conds wx n1 N1) (h2 : Conds wx n2 N2) (e1 : pa ≠ pb) (e2 : pa ≠ pc) (e3 : pb ≠ pc) (hb : Below w.heap.size w wx) (hw : w.heap.size ≤ pa ∧ w.heap.size ≤ pb) {t1 t2 : TypeId} (ka : wx.heap[pa]? = some (.cells #[.string ⟨s1.toArray⟩, .slice a1 L1 c1] t1 (0, 0))) (kb : wx.heap[pb]? = some (.cells #[.string ⟨s2.toArray⟩, .slice a2 L2 c2] t2 (0, 0)))
    {W : World} (hW : W = (((wx.setCell ⟨pa, 0, none⟩ (.string ⟨s1.toArray⟩)).setCell ⟨pa, 1, none⟩ (.slice n1 N1.length cn1)).setCell ⟨pb, 0, none⟩ (.string ⟨s2.toArray⟩)).setCell ⟨pb, 1, none⟩ (.slice n2 N2.length cn2)) :
    ∃ (n1 : Option Addr) (cn1 : Nat) (n2 : Option Addr) (cn2 : Nat), Hid (BoxM W pa #[.string ⟨s1.toArray⟩, .slice n1 N1.length cn1]) ∧ Hid (BoxM W pb #[.string ⟨s2.toArray⟩, .slice n2 N2.length cn2]) ∧ Hid (BoxM W pc #[.int .i64 m0, .int .i64 m1]) ∧ Hid (Conds W n1 N1) ∧ Hid (Conds W n2 N2) ∧ Hid (Below w.heap.size w W) := by
  subst hW
  have o1 := conds_off2 ka h1
  have o2 := conds_off2 ka h2
  have o3 := conds_off2 kb h1
  have o4 := conds_off2 kb h2
  refine ⟨n1, cn1, n2, cn2, Lib.hid (((set_two hA).other e1).other e1), Lib.hid (set_two ((hB.other e1.symm).other e1.symm)), Lib.hid ((((hC.other e2.symm).other e2.symm).other e3.symm).other e3.symm), Lib.hid (conds_two (conds_two h1 o1) o3), Lib.hid (conds_two (conds_two h2 o2) o4), Lib.hid ?_⟩
  exact (((hb.setCell (p := ⟨pa, 0, none⟩) hw.1 _).setCell (p := ⟨pa, 1, none⟩) hw.1 _).setCell (p := ⟨pb, 0, none⟩) hw.2 _).setCell (p := ⟨pb, 1, none⟩) hw.2 _
theorem and_small (a : Int) (k m : Nat) (hm : m = 2 ^ k - 1) (hk : k < 60) : ∃ A : Nat, A < 2 ^ k ∧ bits .and .i64 a (m : Int) = (A : Int) := by
  have h60 : 2 ^ k ≤ 2 ^ 60 := Nat.pow_le_pow_right (by decide) (by omega)
  have hp : 0 < 2 ^ k := Nat.two_pow_pos k
  refine ⟨(BitVec.ofInt 64 a).toNat &&& m, ?_, ?_⟩
  · rw [hm]; exact Nat.lt_of_le_of_lt Nat.and_le_right (by omega)
  · have hle : (BitVec.ofInt 64 a).toNat &&& m ≤ m := Nat.and_le_right
    have e : (BitVec.ofInt 64 (m : Int)).toNat = m := by
      rw [BitVec.ofInt_natCast, BitVec.toNat_ofNat]; exact Nat.mod_eq_of_lt (by omega)
    show IntKind.i64.wrap ((BitVec.ofInt 64 a &&& BitVec.ofInt 64 (m : Int)).toNat : Int) = _
    rw [BitVec.toNat_and, e]
    generalize (BitVec.ofInt 64 a).toNat &&& m = z at *
    simp only [IntKind.wrap, IntKind.bits, IntKind.signed]; simp; omega
set_option maxRecDepth 20000 in
set_option maxHeartbeats 8000000 in
theorem apart_any (s1 : List UInt8) (a1 : Option Addr) (c1 : Nat) (l1 : List C) (s2 : List UInt8) (a2 : Option Addr) (c2 : Nat) (l2 : List C) (m0 m1 : Int) (w : World) (hw : Words w) (hT : Tab.Tabs w)
    (hm1 : l1.length ≤ maxLen) (hm2 : l2.length ≤ maxLen) (z1 : s1.length ≤ 140737488351232) (z2 : s2.length ≤ 140737488351232) (h1 : Conds w a1 l1) (h2 : Conds w a2 l2) (ok1 : ∀ x ∈ l1, Open.COk x) (ok2 : ∀ x ∈ l2, Open.COk x) :
    Calls Tryz.prog 3 #[ev s1 a1 l1.length c1, ev s2 a2 l2.length c2, .agg #[.int .i64 m0, .int .i64 m1]] w fun e w' => e = .returned (.bool true) ∧ Below w.heap.size w w' := by
  have hli1 (W : World) (h : Conds W a1 l1) := light07_any s1 a1 c1 l1 W h hm1
  have hli2 (W : World) (h : Conds W a2 l2) := light07_any s2 a2 c2 l2 W h hm2
  have hri1 (W : World) (h : Conds W a1 l1) (hm : l1.length ≤ 1000000) := fright_any s1 a1 c1 l1 W h hm z1 (fun c hc => ⟨(ok1 c hc).1, (ok1 c hc).2.2.2.2.2⟩)
  have hri2 (W : World) (h : Conds W a2 l2) (hm : l2.length ≤ 1000000) := fright_any s2 a2 c2 l2 W h hm z2 (fun c hc => ⟨(ok2 c hc).1, (ok2 c hc).2.2.2.2.2⟩)
  have hsm1 := fun h : fRight s1 l1 = true => (fright_small h ok1 (fun c hc => (ok1 c hc).2.2.2.2.1))
  have hsm2 := fun h : fRight s2 l2 = true => (fright_small h ok2 (fun c hc => (ok2 c hc).2.2.2.2.1))
  have hap := fun (h : fRight s1 l1 = true) (h' : fRight s2 l2 = true) => apart_same h h' ok1 ok2
  have hle1 := fun h : fRight s1 l1 = true => fright_len (norm_right (hsm1 h).2.2.1 h) (hsm1 h).1
  have hle2 := fun h : fRight s2 l2 = true => fright_len (norm_right (hsm2 h).2.2.1 h) (hsm2 h).1
  generalize fRight s1 l1 = fr1 at *
  generalize fRight s2 l2 = fr2 at *
  have CS1 := Lib.hid h1; have CS2 := Lib.hid h2; have HLI1 := Lib.hid hli1; have HLI2 := Lib.hid hli2; have HRI1 := Lib.hid hri1; have HRI2 := Lib.hid hri2; have HSM1 := Lib.hid hsm1; have HSM2 := Lib.hid hsm2; have HAP := Lib.hid hap; have HLE1 := Lib.hid hle1; have HLE2 := Lib.hid hle2; have HW := Lib.hid hw; have HT := Lib.hid hT
  clear h1 h2 hli1 hli2 hri1 hri2 hsm1 hsm2 hap hle1 hle2 hw hT ok1 ok2 hm1 hm2 z1 z2
  go_enter Tryz.func3, Tryz.ntmps3
  go_upto_region 1 with fail
  have hA0 := boxm_new w #[.string ⟨s1.toArray⟩, .slice a1 l1.length c1] 24 (by simp)
  have hB0 := boxm_new (w.alloc (.cells #[.string ⟨s1.toArray⟩, .slice a1 l1.length c1] 24)) #[.string ⟨s2.toArray⟩, .slice a2 l2.length c2] 24 (by simp)
  have hC0 := boxm_new ((w.alloc (.cells #[.string ⟨s1.toArray⟩, .slice a1 l1.length c1] 24)).alloc (.cells #[.string ⟨s2.toArray⟩, .slice a2 l2.length c2] 24)) #[.int .i64 m0, .int .i64 m1] 25 (by simp)
  have hb0 : Below w.heap.size w (((w.alloc (.cells #[.string ⟨s1.toArray⟩, .slice a1 l1.length c1] 24)).alloc (.cells #[.string ⟨s2.toArray⟩, .slice a2 l2.length c2] 24)).alloc (.cells #[.int .i64 m0, .int .i64 m1] 25)) := btrans (balloc2 _ _ _) (balloc _ _)
  have kA0 : (w.alloc (.cells #[.string ⟨s1.toArray⟩, .slice a1 l1.length c1] 24)).heap[w.heap.size]? = some (.cells #[.string ⟨s1.toArray⟩, .slice a1 l1.length c1] 24 (0, 0)) := by show (Array.push _ _)[_]? = _; rw [Array.getElem?_push_size]
  have kB0 : ((w.alloc (.cells #[.string ⟨s1.toArray⟩, .slice a1 l1.length c1] 24)).alloc (.cells #[.string ⟨s2.toArray⟩, .slice a2 l2.length c2] 24)).heap[(w.alloc (.cells #[.string ⟨s1.toArray⟩, .slice a1 l1.length c1] 24)).heap.size]? = some (.cells #[.string ⟨s2.toArray⟩, .slice a2 l2.length c2] 24 (0, 0)) := by show (Array.push _ _)[_]? = _; rw [Array.getElem?_push_size]
  replace kA0 := ((balloc2 _ (.cells #[.string ⟨s2.toArray⟩, .slice a2 l2.length c2] 24) (.cells #[.int .i64 m0, .int .i64 m1] 25)).block _ hA0.lt).trans kA0
  replace kB0 := ((balloc _ (.cells #[.int .i64 m0, .int .i64 m1] 25)).block _ hB0.lt).trans kB0
  replace hA0 := hA0.below (balloc2 _ (.cells #[.string ⟨s2.toArray⟩, .slice a2 l2.length c2] 24) (.cells #[.int .i64 m0, .int .i64 m1] 25))
  replace hB0 := hB0.below (balloc _ (.cells #[.int .i64 m0, .int .i64 m1] 25))
  simp only [sizeA] at hB0 hC0 kB0
  generalize World.alloc (World.alloc (World.alloc w _) _) _ = W0 at *
  obtain ⟨pa, hpa⟩ : ∃ pa, pa = w.heap.size := ⟨_, rfl⟩
  obtain ⟨pb, hpb⟩ : ∃ pb, pb = w.heap.size + 1 := ⟨_, rfl⟩
  obtain ⟨pc, hpc⟩ : ∃ pc, pc = w.heap.size + 1 + 1 := ⟨_, rfl⟩
  rw [← hpc] at hC0 ⊢
  rw [← hpb] at hB0 kB0 ⊢
  have hpw : w.heap.size ≤ pa ∧ w.heap.size ≤ pb := by omega
  have hpab : pa ≠ pb := by omega
  have hpac : pa ≠ pc := by omega
  have hpbc : pb ≠ pc := by omega
  rw [← hpa] at hA0 kA0
  have HBR := Lib.hid hb0
  have HA := Lib.hid hA0; have HB := Lib.hid hB0; have HC := Lib.hid hC0; have KA := Lib.hid kA0; have KB := Lib.hid kB0
  clear hb0 hA0 hB0 hC0 hpb hpc kA0 kB0
  subst hpa
  have f0 : True := trivial; have f1 : True := trivial; have g0 : True := trivial; have g1 : True := trivial
  go_wp2_with fail
  refine (fit16_any _).mono ?_; rintro e w1 ⟨rfl, hbn⟩; (replace KA := Lib.hid ((hbn.block _ HA.out.lt).trans KA.out); replace KB := Lib.hid ((hbn.block _ HB.out.lt).trans KB.out); replace HA := Lib.hid (HA.out.below hbn); replace HB := Lib.hid (HB.out.below hbn); replace HC := Lib.hid (HC.out.below hbn); replace HBR := Lib.hid (btrans HBR.out hbn); clear hbn f0 f1 g0 g1; have f0 := HA.out.c 0 (by simp); have f1 := HA.out.c 1 (by simp); have g0 := HB.out.c 0 (by simp); have g1 := HB.out.c 1 (by simp); simp only [List.getElem?_toArray, List.getElem?_cons_zero, List.getElem?_cons_succ] at f0 f1 g0 g1)
  go_wp2_with fail
  refine (HLI1.out _ (CS1.out.below HBR.out)).mono ?_; rintro e w2 ⟨⟨fb, rfl, hfl⟩, hbn⟩; (replace KA := Lib.hid ((hbn.block _ HA.out.lt).trans KA.out); replace KB := Lib.hid ((hbn.block _ HB.out.lt).trans KB.out); replace HA := Lib.hid (HA.out.below hbn); replace HB := Lib.hid (HB.out.below hbn); replace HC := Lib.hid (HC.out.below hbn); replace HBR := Lib.hid (btrans HBR.out hbn); clear hbn f0 f1 g0 g1; have f0 := HA.out.c 0 (by simp); have f1 := HA.out.c 1 (by simp); have g0 := HB.out.c 0 (by simp); have g1 := HB.out.c 1 (by simp); simp only [List.getElem?_toArray, List.getElem?_cons_zero, List.getElem?_cons_succ] at f0 f1 g0 g1)
  cases fb
  · go_wp2_with fail
    go_ret
    exact ⟨rfl, HBR.out⟩
  have hc1 := hfl rfl
  clear hfl
  go_wp2_with fail
  refine (HLI2.out _ (CS2.out.below HBR.out)).mono ?_; rintro e w2 ⟨⟨fb, rfl, hfl⟩, hbn⟩; (replace KA := Lib.hid ((hbn.block _ HA.out.lt).trans KA.out); replace KB := Lib.hid ((hbn.block _ HB.out.lt).trans KB.out); replace HA := Lib.hid (HA.out.below hbn); replace HB := Lib.hid (HB.out.below hbn); replace HC := Lib.hid (HC.out.below hbn); replace HBR := Lib.hid (btrans HBR.out hbn); clear hbn f0 f1 g0 g1; have f0 := HA.out.c 0 (by simp); have f1 := HA.out.c 1 (by simp); have g0 := HB.out.c 0 (by simp); have g1 := HB.out.c 1 (by simp); simp only [List.getElem?_toArray, List.getElem?_cons_zero, List.getElem?_cons_succ] at f0 f1 g0 g1)
  cases fb
  · go_wp2_with fail
    go_ret
    exact ⟨rfl, HBR.out⟩
  have hc2 := hfl rfl
  clear hfl
  go_wp2_with fail
  refine (HRI1.out _ (CS1.out.below HBR.out) (by omega)).mono ?_; rintro e w3 ⟨rfl, hbn⟩; (replace KA := Lib.hid ((hbn.block _ HA.out.lt).trans KA.out); replace KB := Lib.hid ((hbn.block _ HB.out.lt).trans KB.out); replace HA := Lib.hid (HA.out.below hbn); replace HB := Lib.hid (HB.out.below hbn); replace HC := Lib.hid (HC.out.below hbn); replace HBR := Lib.hid (btrans HBR.out hbn); clear hbn f0 f1 g0 g1; have f0 := HA.out.c 0 (by simp); have f1 := HA.out.c 1 (by simp); have g0 := HB.out.c 0 (by simp); have g1 := HB.out.c 1 (by simp); simp only [List.getElem?_toArray, List.getElem?_cons_zero, List.getElem?_cons_succ] at f0 f1 g0 g1)
  cases fr1
  · go_wp2_with fail
    go_ret
    exact ⟨rfl, HBR.out⟩
  go_wp2_with fail
  refine (HRI2.out _ (CS2.out.below HBR.out) (by omega)).mono ?_; rintro e w5 ⟨rfl, hbn⟩; (replace KA := Lib.hid ((hbn.block _ HA.out.lt).trans KA.out); replace KB := Lib.hid ((hbn.block _ HB.out.lt).trans KB.out); replace HA := Lib.hid (HA.out.below hbn); replace HB := Lib.hid (HB.out.below hbn); replace HC := Lib.hid (HC.out.below hbn); replace HBR := Lib.hid (btrans HBR.out hbn); clear hbn f0 f1 g0 g1; have f0 := HA.out.c 0 (by simp); have f1 := HA.out.c 1 (by simp); have g0 := HB.out.c 0 (by simp); have g1 := HB.out.c 1 (by simp); simp only [List.getElem?_toArray, List.getElem?_cons_zero, List.getElem?_cons_succ] at f0 f1 g0 g1)
  cases fr2
  · go_wp2_with fail
    go_ret
    exact ⟨rfl, HBR.out⟩
  have hsm1 := HSM1.out (by simp)
  have hsm2 := HSM2.out (by simp)
  have hap := HAP.out (by simp) (by simp)
  have hle1 := HLE1.out (by simp)
  have hle2 := HLE2.out (by simp)
  go_upto_region 5 with fail
  have hno1 : ∀ W, Below w5.heap.size w5 W → Calls Tryz.prog 7 #[ev s1 a1 l1.length c1] W fun e w' => ∃ b0 cp, e = .returned (ev s1 b0 (normL l1).length cp) ∧ Conds w' b0 (normL l1) ∧ Below W.heap.size W w' := fun W hb =>
    norm_any s1 a1 c1 l1 W (CS1.out.below (btrans HBR.out hb)) (by omega) (HW.out.below (btrans HBR.out hb)) (HT.out.below (btrans HBR.out hb) (Nat.le_refl _)) hsm1.2.2.2
  have hno2 : ∀ W, Below w5.heap.size w5 W → Calls Tryz.prog 7 #[ev s2 a2 l2.length c2] W fun e w' => ∃ b0 cp, e = .returned (ev s2 b0 (normL l2).length cp) ∧ Conds w' b0 (normL l2) ∧ Below W.heap.size W w' := fun W hb =>
    norm_any s2 a2 c2 l2 W (CS2.out.below (btrans HBR.out hb)) (by omega) (HW.out.below (btrans HBR.out hb)) (HT.out.below (btrans HBR.out hb) (Nat.le_refl _)) hsm2.2.2.2
  have hpr1 := fun (b0 : Option Addr) (cp : Nat) (W : World) (hb : Below w.heap.size w W) (hc : Conds W b0 (normL l1)) => nprint_any s1 b0 cp l1 W (HW.out.below hb) (HT.out.below hb (Nat.le_refl _)) hc (by omega) hsm1.2.2.2 (by omega)
  have hpr2 := fun (b0 : Option Addr) (cp : Nat) (W : World) (hb : Below w.heap.size w W) (hc : Conds W b0 (normL l2)) => nprint_any s2 b0 cp l2 W (HW.out.below hb) (HT.out.below hb (Nat.le_refl _)) hc (by omega) hsm2.2.2.2 (by omega)
  have hnm1 : ∀ c ∈ normL l1, c.val.num < 18446744073709551616 := fun c h => (hsm1.2.2.1.norm c h).2
  have hnm2 : ∀ c ∈ normL l2, c.val.num < 18446744073709551616 := fun c h => (hsm2.2.2.1.norm c h).2
  have hln1 : (normL l1).length ≤ 1000 := by have := normL_len l1; omega
  have hln2 : (normL l2).length ≤ 1000 := by have := normL_len l2; omega
  generalize keyT s1 l1 = T1 at *
  generalize keyT s2 l2 = T2 at *
  generalize normL l1 = N1 at *
  generalize normL l2 = N2 at *
  have HNO1 := Lib.hid hno1; have HNO2 := Lib.hid hno2; have HPR1 := Lib.hid hpr1; have HPR2 := Lib.hid hpr2; have HNM1 := Lib.hid hnm1; have HNM2 := Lib.hid hnm2; have HEQ := Lib.hid hap; have HL1 := Lib.hid hle1; have HL2 := Lib.hid hle2
  clear hno1 hno2 hpr1 hpr2 hnm1 hnm2 hap hle1 hle2 hsm1 hsm2 HSM1 HSM2 HAP HLE1 HLE2 HLI1 HLI2 HRI1 HRI2 CS1 CS2 HW HT
  go_cut [] (fun wx => ∃ (n1 : Option Addr) (cn1 : Nat) (n2 : Option Addr) (cn2 : Nat), Hid (BoxM wx w.heap.size #[.string ⟨s1.toArray⟩, .slice n1 N1.length cn1]) ∧ Hid (BoxM wx pb #[.string ⟨s2.toArray⟩, .slice n2 N2.length cn2]) ∧ Hid (BoxM wx pc #[.int .i64 m0, .int .i64 m1]) ∧ Hid (Conds wx n1 N1) ∧ Hid (Conds wx n2 N2) ∧ Hid (Below w.heap.size w wx))
  case first => as_aux_lemma =>
    clear HPR1 HPR2 HNM1 HNM2 HEQ HL1 HL2
    refine wp_region_held_drew (S := (fun _ => True)) (by kernel_rfl) ?_ (fun hq0 => ?_)
    · ((try dsimp only); (try trivial))
    refine wpAnyH_ready (rs := [0, 2]) (by kernel_rfl) (by simp) ?_
    refine AllReadyH.cons (o := ?_) ?_ (fun K hK => ?_) ?_
    rotate_left 1
    · (simp only [List.getElem?_toArray, List.getElem?_cons_zero]; first | done | rfl)
    rotate_left 1
    refine AllReadyH.cons (o := ?_) ?_ (fun K hK => ?_) AllReadyH.nil
    rotate_left 1
    · (simp only [List.getElem?_toArray, List.getElem?_cons_succ, List.getElem?_cons_zero]; first | done | rfl)
    rotate_left 1
    · skip
      go_simp
      first | (refine hK.out _ _ ?_ (fun hq1 => ?_)) | ((first | (go_at_call 7; (with_reducible refine (HNO1.out w5.drew (bdrewN (Below.refl _ _) 1)).mono ?_); rintro e w6 ⟨n1, cn1, rfl, hc1, hb6⟩; have hB6 := bdrew0 hb6; clear f0 f1 g0 g1; have g0 := (HB.out.below hB6).c 0 (by simp); have g1 := (HB.out.below hB6).c 1 (by simp); simp only [List.getElem?_toArray, List.getElem?_cons_zero, List.getElem?_cons_succ] at g0 g1) | (go_at_call 7; (with_reducible refine (HNO2.out _ hB6).mono ?_); rintro e w7 ⟨n2, cn2, rfl, hc2, hb7⟩; have hB7 := btrans hB6 hb7; have HC1 := hc1.below hb7; clear g0 g1; have HA7 := HA.out.below hB7; have HB7 := HB.out.below hB7; have HC7 := HC.out.below hB7; have KA7 := (hB7.block _ HA.out.lt).trans KA.out; have KB7 := (hB7.block _ HB.out.lt).trans KB.out; have f0 := HA7.c 0 (by simp); have f1 := HA7.c 1 (by simp); have fz := HA7.z; have g0 := HB7.c 0 (by simp); have g1 := HB7.c 1 (by simp); have gz := HB7.z; simp only [List.getElem?_toArray, List.getElem?_cons_zero, List.getElem?_cons_succ] at f0 f1 g0 g1)); refine hK.out _ _ ?_ (fun hq1 => ?_)) | ((first | (go_at_call 7; (with_reducible refine (HNO1.out w5.drew (bdrewN (Below.refl _ _) 1)).mono ?_); rintro e w6 ⟨n1, cn1, rfl, hc1, hb6⟩; have hB6 := bdrew0 hb6; clear f0 f1 g0 g1; have g0 := (HB.out.below hB6).c 0 (by simp); have g1 := (HB.out.below hB6).c 1 (by simp); simp only [List.getElem?_toArray, List.getElem?_cons_zero, List.getElem?_cons_succ] at g0 g1) | (go_at_call 7; (with_reducible refine (HNO2.out _ hB6).mono ?_); rintro e w7 ⟨n2, cn2, rfl, hc2, hb7⟩; have hB7 := btrans hB6 hb7; have HC1 := hc1.below hb7; clear g0 g1; have HA7 := HA.out.below hB7; have HB7 := HB.out.below hB7; have HC7 := HC.out.below hB7; have KA7 := (hB7.block _ HA.out.lt).trans KA.out; have KB7 := (hB7.block _ HB.out.lt).trans KB.out; have f0 := HA7.c 0 (by simp); have f1 := HA7.c 1 (by simp); have fz := HA7.z; have g0 := HB7.c 0 (by simp); have g1 := HB7.c 1 (by simp); have gz := HB7.z; simp only [List.getElem?_toArray, List.getElem?_cons_zero, List.getElem?_cons_succ] at f0 f1 g0 g1)); go_wp2_with fail; refine hK.out _ _ ?_ (fun hq1 => ?_)) | fail
      · ((try dsimp only); (try trivial))
      clear hK K
      (try simp only [Act.put, List.setIfInBounds_toArray, List.set_cons_zero, List.set_cons_succ])
      clear hq0
      refine wpAnyH_ready (rs := [1, 2]) (by kernel_rfl) (by simp) ?_
      refine AllReadyH.cons (o := ?_) ?_ (fun K hK => ?_) ?_
      rotate_left 1
      · (simp only [List.getElem?_toArray, List.getElem?_cons_succ, List.getElem?_cons_zero]; first | done | rfl)
      rotate_left 1
      refine AllReadyH.cons (o := ?_) ?_ (fun K hK => ?_) AllReadyH.nil
      rotate_left 1
      · (simp only [List.getElem?_toArray, List.getElem?_cons_succ, List.getElem?_cons_zero]; first | done | rfl)
      rotate_left 1
      · skip
        go_simp
        first | (refine hK.out _ _ ?_ (fun hq2 => ?_)) | ((first | (go_at_call 7; (with_reducible refine (HNO1.out w5.drew (bdrewN (Below.refl _ _) 1)).mono ?_); rintro e w6 ⟨n1, cn1, rfl, hc1, hb6⟩; have hB6 := bdrew0 hb6; clear f0 f1 g0 g1; have g0 := (HB.out.below hB6).c 0 (by simp); have g1 := (HB.out.below hB6).c 1 (by simp); simp only [List.getElem?_toArray, List.getElem?_cons_zero, List.getElem?_cons_succ] at g0 g1) | (go_at_call 7; (with_reducible refine (HNO2.out _ hB6).mono ?_); rintro e w7 ⟨n2, cn2, rfl, hc2, hb7⟩; have hB7 := btrans hB6 hb7; have HC1 := hc1.below hb7; clear g0 g1; have HA7 := HA.out.below hB7; have HB7 := HB.out.below hB7; have HC7 := HC.out.below hB7; have KA7 := (hB7.block _ HA.out.lt).trans KA.out; have KB7 := (hB7.block _ HB.out.lt).trans KB.out; have f0 := HA7.c 0 (by simp); have f1 := HA7.c 1 (by simp); have fz := HA7.z; have g0 := HB7.c 0 (by simp); have g1 := HB7.c 1 (by simp); have gz := HB7.z; simp only [List.getElem?_toArray, List.getElem?_cons_zero, List.getElem?_cons_succ] at f0 f1 g0 g1)); refine hK.out _ _ ?_ (fun hq2 => ?_)) | ((first | (go_at_call 7; (with_reducible refine (HNO1.out w5.drew (bdrewN (Below.refl _ _) 1)).mono ?_); rintro e w6 ⟨n1, cn1, rfl, hc1, hb6⟩; have hB6 := bdrew0 hb6; clear f0 f1 g0 g1; have g0 := (HB.out.below hB6).c 0 (by simp); have g1 := (HB.out.below hB6).c 1 (by simp); simp only [List.getElem?_toArray, List.getElem?_cons_zero, List.getElem?_cons_succ] at g0 g1) | (go_at_call 7; (with_reducible refine (HNO2.out _ hB6).mono ?_); rintro e w7 ⟨n2, cn2, rfl, hc2, hb7⟩; have hB7 := btrans hB6 hb7; have HC1 := hc1.below hb7; clear g0 g1; have HA7 := HA.out.below hB7; have HB7 := HB.out.below hB7; have HC7 := HC.out.below hB7; have KA7 := (hB7.block _ HA.out.lt).trans KA.out; have KB7 := (hB7.block _ HB.out.lt).trans KB.out; have f0 := HA7.c 0 (by simp); have f1 := HA7.c 1 (by simp); have fz := HA7.z; have g0 := HB7.c 0 (by simp); have g1 := HB7.c 1 (by simp); have gz := HB7.z; simp only [List.getElem?_toArray, List.getElem?_cons_zero, List.getElem?_cons_succ] at f0 f1 g0 g1)); go_wp2_with fail; refine hK.out _ _ ?_ (fun hq2 => ?_)) | fail
        · ((try dsimp only); (try trivial))
        clear hK K
        (try simp only [Act.put, List.setIfInBounds_toArray, List.set_cons_zero, List.set_cons_succ])
        clear hq1
        refine wpAnyH_ready (rs := [2]) (by kernel_rfl) (by simp) ?_
        refine AllReadyH.cons (o := ?_) ?_ (fun K hK => ?_) AllReadyH.nil
        rotate_left 1
        · (simp only [List.getElem?_toArray, List.getElem?_cons_succ, List.getElem?_cons_zero]; first | done | rfl)
        go_simp
        first | (refine hK.out _ _ ?_ (fun hq3 => ?_)) | ((first | (go_at_call 7; (with_reducible refine (HNO1.out w5.drew (bdrewN (Below.refl _ _) 1)).mono ?_); rintro e w6 ⟨n1, cn1, rfl, hc1, hb6⟩; have hB6 := bdrew0 hb6; clear f0 f1 g0 g1; have g0 := (HB.out.below hB6).c 0 (by simp); have g1 := (HB.out.below hB6).c 1 (by simp); simp only [List.getElem?_toArray, List.getElem?_cons_zero, List.getElem?_cons_succ] at g0 g1) | (go_at_call 7; (with_reducible refine (HNO2.out _ hB6).mono ?_); rintro e w7 ⟨n2, cn2, rfl, hc2, hb7⟩; have hB7 := btrans hB6 hb7; have HC1 := hc1.below hb7; clear g0 g1; have HA7 := HA.out.below hB7; have HB7 := HB.out.below hB7; have HC7 := HC.out.below hB7; have KA7 := (hB7.block _ HA.out.lt).trans KA.out; have KB7 := (hB7.block _ HB.out.lt).trans KB.out; have f0 := HA7.c 0 (by simp); have f1 := HA7.c 1 (by simp); have fz := HA7.z; have g0 := HB7.c 0 (by simp); have g1 := HB7.c 1 (by simp); have gz := HB7.z; simp only [List.getElem?_toArray, List.getElem?_cons_zero, List.getElem?_cons_succ] at f0 f1 g0 g1)); refine hK.out _ _ ?_ (fun hq3 => ?_)) | ((first | (go_at_call 7; (with_reducible refine (HNO1.out w5.drew (bdrewN (Below.refl _ _) 1)).mono ?_); rintro e w6 ⟨n1, cn1, rfl, hc1, hb6⟩; have hB6 := bdrew0 hb6; clear f0 f1 g0 g1; have g0 := (HB.out.below hB6).c 0 (by simp); have g1 := (HB.out.below hB6).c 1 (by simp); simp only [List.getElem?_toArray, List.getElem?_cons_zero, List.getElem?_cons_succ] at g0 g1) | (go_at_call 7; (with_reducible refine (HNO2.out _ hB6).mono ?_); rintro e w7 ⟨n2, cn2, rfl, hc2, hb7⟩; have hB7 := btrans hB6 hb7; have HC1 := hc1.below hb7; clear g0 g1; have HA7 := HA.out.below hB7; have HB7 := HB.out.below hB7; have HC7 := HC.out.below hB7; have KA7 := (hB7.block _ HA.out.lt).trans KA.out; have KB7 := (hB7.block _ HB.out.lt).trans KB.out; have f0 := HA7.c 0 (by simp); have f1 := HA7.c 1 (by simp); have fz := HA7.z; have g0 := HB7.c 0 (by simp); have g1 := HB7.c 1 (by simp); have gz := HB7.z; simp only [List.getElem?_toArray, List.getElem?_cons_zero, List.getElem?_cons_succ] at f0 f1 g0 g1)); go_wp2_with fail; refine hK.out _ _ ?_ (fun hq3 => ?_)) | fail
        · ((try dsimp only); (try trivial))
        clear hK K
        (try simp only [Act.put, List.setIfInBounds_toArray, List.set_cons_zero, List.set_cons_succ])
        clear hq2
        refine wpAnyH_ready (rs := [3]) (by kernel_rfl) (by simp) ?_
        refine AllReadyH.cons (o := ?_) ?_ (fun K hK => ?_) AllReadyH.nil
        rotate_left 1
        · (simp only [List.getElem?_toArray, List.getElem?_cons_succ, List.getElem?_cons_zero]; first | done | rfl)
        go_simp
        first | (refine hK.out _ _ ?_ (fun hq4 => ?_)) | ((first | (go_at_call 7; (with_reducible refine (HNO1.out w5.drew (bdrewN (Below.refl _ _) 1)).mono ?_); rintro e w6 ⟨n1, cn1, rfl, hc1, hb6⟩; have hB6 := bdrew0 hb6; clear f0 f1 g0 g1; have g0 := (HB.out.below hB6).c 0 (by simp); have g1 := (HB.out.below hB6).c 1 (by simp); simp only [List.getElem?_toArray, List.getElem?_cons_zero, List.getElem?_cons_succ] at g0 g1) | (go_at_call 7; (with_reducible refine (HNO2.out _ hB6).mono ?_); rintro e w7 ⟨n2, cn2, rfl, hc2, hb7⟩; have hB7 := btrans hB6 hb7; have HC1 := hc1.below hb7; clear g0 g1; have HA7 := HA.out.below hB7; have HB7 := HB.out.below hB7; have HC7 := HC.out.below hB7; have KA7 := (hB7.block _ HA.out.lt).trans KA.out; have KB7 := (hB7.block _ HB.out.lt).trans KB.out; have f0 := HA7.c 0 (by simp); have f1 := HA7.c 1 (by simp); have fz := HA7.z; have g0 := HB7.c 0 (by simp); have g1 := HB7.c 1 (by simp); have gz := HB7.z; simp only [List.getElem?_toArray, List.getElem?_cons_zero, List.getElem?_cons_succ] at f0 f1 g0 g1)); refine hK.out _ _ ?_ (fun hq4 => ?_)) | ((first | (go_at_call 7; (with_reducible refine (HNO1.out w5.drew (bdrewN (Below.refl _ _) 1)).mono ?_); rintro e w6 ⟨n1, cn1, rfl, hc1, hb6⟩; have hB6 := bdrew0 hb6; clear f0 f1 g0 g1; have g0 := (HB.out.below hB6).c 0 (by simp); have g1 := (HB.out.below hB6).c 1 (by simp); simp only [List.getElem?_toArray, List.getElem?_cons_zero, List.getElem?_cons_succ] at g0 g1) | (go_at_call 7; (with_reducible refine (HNO2.out _ hB6).mono ?_); rintro e w7 ⟨n2, cn2, rfl, hc2, hb7⟩; have hB7 := btrans hB6 hb7; have HC1 := hc1.below hb7; clear g0 g1; have HA7 := HA.out.below hB7; have HB7 := HB.out.below hB7; have HC7 := HC.out.below hB7; have KA7 := (hB7.block _ HA.out.lt).trans KA.out; have KB7 := (hB7.block _ HB.out.lt).trans KB.out; have f0 := HA7.c 0 (by simp); have f1 := HA7.c 1 (by simp); have fz := HA7.z; have g0 := HB7.c 0 (by simp); have g1 := HB7.c 1 (by simp); have gz := HB7.z; simp only [List.getElem?_toArray, List.getElem?_cons_zero, List.getElem?_cons_succ] at f0 f1 g0 g1)); go_wp2_with fail; refine hK.out _ _ ?_ (fun hq4 => ?_)) | fail
        · ((try dsimp only); (try trivial))
        clear hK K
        (try simp only [Act.put, List.setIfInBounds_toArray, List.set_cons_zero, List.set_cons_succ])
        clear hq3
        refine wpAnyH_ready (rs := [4]) (by kernel_rfl) (by simp) ?_
        refine AllReadyH.cons (o := ?_) ?_ (fun K hK => ?_) AllReadyH.nil
        rotate_left 1
        · (simp only [List.getElem?_toArray, List.getElem?_cons_succ, List.getElem?_cons_zero]; first | done | rfl)
        go_simp
        first | (refine hK.out _ _ ?_ (fun hq5 => ?_)) | ((first | (go_at_call 7; (with_reducible refine (HNO1.out w5.drew (bdrewN (Below.refl _ _) 1)).mono ?_); rintro e w6 ⟨n1, cn1, rfl, hc1, hb6⟩; have hB6 := bdrew0 hb6; clear f0 f1 g0 g1; have g0 := (HB.out.below hB6).c 0 (by simp); have g1 := (HB.out.below hB6).c 1 (by simp); simp only [List.getElem?_toArray, List.getElem?_cons_zero, List.getElem?_cons_succ] at g0 g1) | (go_at_call 7; (with_reducible refine (HNO2.out _ hB6).mono ?_); rintro e w7 ⟨n2, cn2, rfl, hc2, hb7⟩; have hB7 := btrans hB6 hb7; have HC1 := hc1.below hb7; clear g0 g1; have HA7 := HA.out.below hB7; have HB7 := HB.out.below hB7; have HC7 := HC.out.below hB7; have KA7 := (hB7.block _ HA.out.lt).trans KA.out; have KB7 := (hB7.block _ HB.out.lt).trans KB.out; have f0 := HA7.c 0 (by simp); have f1 := HA7.c 1 (by simp); have fz := HA7.z; have g0 := HB7.c 0 (by simp); have g1 := HB7.c 1 (by simp); have gz := HB7.z; simp only [List.getElem?_toArray, List.getElem?_cons_zero, List.getElem?_cons_succ] at f0 f1 g0 g1)); refine hK.out _ _ ?_ (fun hq5 => ?_)) | ((first | (go_at_call 7; (with_reducible refine (HNO1.out w5.drew (bdrewN (Below.refl _ _) 1)).mono ?_); rintro e w6 ⟨n1, cn1, rfl, hc1, hb6⟩; have hB6 := bdrew0 hb6; clear f0 f1 g0 g1; have g0 := (HB.out.below hB6).c 0 (by simp); have g1 := (HB.out.below hB6).c 1 (by simp); simp only [List.getElem?_toArray, List.getElem?_cons_zero, List.getElem?_cons_succ] at g0 g1) | (go_at_call 7; (with_reducible refine (HNO2.out _ hB6).mono ?_); rintro e w7 ⟨n2, cn2, rfl, hc2, hb7⟩; have hB7 := btrans hB6 hb7; have HC1 := hc1.below hb7; clear g0 g1; have HA7 := HA.out.below hB7; have HB7 := HB.out.below hB7; have HC7 := HC.out.below hB7; have KA7 := (hB7.block _ HA.out.lt).trans KA.out; have KB7 := (hB7.block _ HB.out.lt).trans KB.out; have f0 := HA7.c 0 (by simp); have f1 := HA7.c 1 (by simp); have fz := HA7.z; have g0 := HB7.c 0 (by simp); have g1 := HB7.c 1 (by simp); have gz := HB7.z; simp only [List.getElem?_toArray, List.getElem?_cons_zero, List.getElem?_cons_succ] at f0 f1 g0 g1)); go_wp2_with fail; refine hK.out _ _ ?_ (fun hq5 => ?_)) | fail
        · ((try dsimp only); (try trivial))
        clear hK K
        (try simp only [Act.put, List.setIfInBounds_toArray, List.set_cons_zero, List.set_cons_succ])
        clear hq4
        refine wpAnyH_ready (rs := [5]) (by kernel_rfl) (by simp) ?_
        refine AllReadyH.cons (o := ?_) ?_ (fun K hK => ?_) AllReadyH.nil
        rotate_left 1
        · (simp only [List.getElem?_toArray, List.getElem?_cons_succ, List.getElem?_cons_zero]; first | done | rfl)
        go_simp
        first | (refine hK.out _ _ ?_ (fun hq6 => ?_)) | ((first | (go_at_call 7; (with_reducible refine (HNO1.out w5.drew (bdrewN (Below.refl _ _) 1)).mono ?_); rintro e w6 ⟨n1, cn1, rfl, hc1, hb6⟩; have hB6 := bdrew0 hb6; clear f0 f1 g0 g1; have g0 := (HB.out.below hB6).c 0 (by simp); have g1 := (HB.out.below hB6).c 1 (by simp); simp only [List.getElem?_toArray, List.getElem?_cons_zero, List.getElem?_cons_succ] at g0 g1) | (go_at_call 7; (with_reducible refine (HNO2.out _ hB6).mono ?_); rintro e w7 ⟨n2, cn2, rfl, hc2, hb7⟩; have hB7 := btrans hB6 hb7; have HC1 := hc1.below hb7; clear g0 g1; have HA7 := HA.out.below hB7; have HB7 := HB.out.below hB7; have HC7 := HC.out.below hB7; have KA7 := (hB7.block _ HA.out.lt).trans KA.out; have KB7 := (hB7.block _ HB.out.lt).trans KB.out; have f0 := HA7.c 0 (by simp); have f1 := HA7.c 1 (by simp); have fz := HA7.z; have g0 := HB7.c 0 (by simp); have g1 := HB7.c 1 (by simp); have gz := HB7.z; simp only [List.getElem?_toArray, List.getElem?_cons_zero, List.getElem?_cons_succ] at f0 f1 g0 g1)); refine hK.out _ _ ?_ (fun hq6 => ?_)) | ((first | (go_at_call 7; (with_reducible refine (HNO1.out w5.drew (bdrewN (Below.refl _ _) 1)).mono ?_); rintro e w6 ⟨n1, cn1, rfl, hc1, hb6⟩; have hB6 := bdrew0 hb6; clear f0 f1 g0 g1; have g0 := (HB.out.below hB6).c 0 (by simp); have g1 := (HB.out.below hB6).c 1 (by simp); simp only [List.getElem?_toArray, List.getElem?_cons_zero, List.getElem?_cons_succ] at g0 g1) | (go_at_call 7; (with_reducible refine (HNO2.out _ hB6).mono ?_); rintro e w7 ⟨n2, cn2, rfl, hc2, hb7⟩; have hB7 := btrans hB6 hb7; have HC1 := hc1.below hb7; clear g0 g1; have HA7 := HA.out.below hB7; have HB7 := HB.out.below hB7; have HC7 := HC.out.below hB7; have KA7 := (hB7.block _ HA.out.lt).trans KA.out; have KB7 := (hB7.block _ HB.out.lt).trans KB.out; have f0 := HA7.c 0 (by simp); have f1 := HA7.c 1 (by simp); have fz := HA7.z; have g0 := HB7.c 0 (by simp); have g1 := HB7.c 1 (by simp); have gz := HB7.z; simp only [List.getElem?_toArray, List.getElem?_cons_zero, List.getElem?_cons_succ] at f0 f1 g0 g1)); go_wp2_with fail; refine hK.out _ _ ?_ (fun hq6 => ?_)) | fail
        · ((try dsimp only); (try trivial))
        clear hK K
        (try simp only [Act.put, List.setIfInBounds_toArray, List.set_cons_zero, List.set_cons_succ])
        clear hq5
        refine wpAnyH_done (by kernel_rfl) ?_ _
        (go_wp2_with fail; go_meet; exact cut_end HA7 HB7 HC7 HC1 hc2 hpab hpac hpbc (btrans HBR.out hB7) hpw KA7 KB7 rfl)
      · skip
        go_simp
        first | (refine hK.out _ _ ?_ (fun hq2 => ?_)) | ((first | (go_at_call 7; (with_reducible refine (HNO1.out w5.drew (bdrewN (Below.refl _ _) 1)).mono ?_); rintro e w6 ⟨n1, cn1, rfl, hc1, hb6⟩; have hB6 := bdrew0 hb6; clear f0 f1 g0 g1; have g0 := (HB.out.below hB6).c 0 (by simp); have g1 := (HB.out.below hB6).c 1 (by simp); simp only [List.getElem?_toArray, List.getElem?_cons_zero, List.getElem?_cons_succ] at g0 g1) | (go_at_call 7; (with_reducible refine (HNO2.out _ hB6).mono ?_); rintro e w7 ⟨n2, cn2, rfl, hc2, hb7⟩; have hB7 := btrans hB6 hb7; have HC1 := hc1.below hb7; clear g0 g1; have HA7 := HA.out.below hB7; have HB7 := HB.out.below hB7; have HC7 := HC.out.below hB7; have KA7 := (hB7.block _ HA.out.lt).trans KA.out; have KB7 := (hB7.block _ HB.out.lt).trans KB.out; have f0 := HA7.c 0 (by simp); have f1 := HA7.c 1 (by simp); have fz := HA7.z; have g0 := HB7.c 0 (by simp); have g1 := HB7.c 1 (by simp); have gz := HB7.z; simp only [List.getElem?_toArray, List.getElem?_cons_zero, List.getElem?_cons_succ] at f0 f1 g0 g1)); refine hK.out _ _ ?_ (fun hq2 => ?_)) | ((first | (go_at_call 7; (with_reducible refine (HNO1.out w5.drew (bdrewN (Below.refl _ _) 1)).mono ?_); rintro e w6 ⟨n1, cn1, rfl, hc1, hb6⟩; have hB6 := bdrew0 hb6; clear f0 f1 g0 g1; have g0 := (HB.out.below hB6).c 0 (by simp); have g1 := (HB.out.below hB6).c 1 (by simp); simp only [List.getElem?_toArray, List.getElem?_cons_zero, List.getElem?_cons_succ] at g0 g1) | (go_at_call 7; (with_reducible refine (HNO2.out _ hB6).mono ?_); rintro e w7 ⟨n2, cn2, rfl, hc2, hb7⟩; have hB7 := btrans hB6 hb7; have HC1 := hc1.below hb7; clear g0 g1; have HA7 := HA.out.below hB7; have HB7 := HB.out.below hB7; have HC7 := HC.out.below hB7; have KA7 := (hB7.block _ HA.out.lt).trans KA.out; have KB7 := (hB7.block _ HB.out.lt).trans KB.out; have f0 := HA7.c 0 (by simp); have f1 := HA7.c 1 (by simp); have fz := HA7.z; have g0 := HB7.c 0 (by simp); have g1 := HB7.c 1 (by simp); have gz := HB7.z; simp only [List.getElem?_toArray, List.getElem?_cons_zero, List.getElem?_cons_succ] at f0 f1 g0 g1)); go_wp2_with fail; refine hK.out _ _ ?_ (fun hq2 => ?_)) | fail
        · ((try dsimp only); (try trivial))
        clear hK K
        (try simp only [Act.put, List.setIfInBounds_toArray, List.set_cons_zero, List.set_cons_succ])
        clear hq1
        refine wpAnyH_ready (rs := [1]) (by kernel_rfl) (by simp) ?_
        refine AllReadyH.cons (o := ?_) ?_ (fun K hK => ?_) AllReadyH.nil
        rotate_left 1
        · (simp only [List.getElem?_toArray, List.getElem?_cons_succ, List.getElem?_cons_zero]; first | done | rfl)
        go_simp
        first | (refine hK.out _ _ ?_ (fun hq3 => ?_)) | ((first | (go_at_call 7; (with_reducible refine (HNO1.out w5.drew (bdrewN (Below.refl _ _) 1)).mono ?_); rintro e w6 ⟨n1, cn1, rfl, hc1, hb6⟩; have hB6 := bdrew0 hb6; clear f0 f1 g0 g1; have g0 := (HB.out.below hB6).c 0 (by simp); have g1 := (HB.out.below hB6).c 1 (by simp); simp only [List.getElem?_toArray, List.getElem?_cons_zero, List.getElem?_cons_succ] at g0 g1) | (go_at_call 7; (with_reducible refine (HNO2.out _ hB6).mono ?_); rintro e w7 ⟨n2, cn2, rfl, hc2, hb7⟩; have hB7 := btrans hB6 hb7; have HC1 := hc1.below hb7; clear g0 g1; have HA7 := HA.out.below hB7; have HB7 := HB.out.below hB7; have HC7 := HC.out.below hB7; have KA7 := (hB7.block _ HA.out.lt).trans KA.out; have KB7 := (hB7.block _ HB.out.lt).trans KB.out; have f0 := HA7.c 0 (by simp); have f1 := HA7.c 1 (by simp); have fz := HA7.z; have g0 := HB7.c 0 (by simp); have g1 := HB7.c 1 (by simp); have gz := HB7.z; simp only [List.getElem?_toArray, List.getElem?_cons_zero, List.getElem?_cons_succ] at f0 f1 g0 g1)); refine hK.out _ _ ?_ (fun hq3 => ?_)) | ((first | (go_at_call 7; (with_reducible refine (HNO1.out w5.drew (bdrewN (Below.refl _ _) 1)).mono ?_); rintro e w6 ⟨n1, cn1, rfl, hc1, hb6⟩; have hB6 := bdrew0 hb6; clear f0 f1 g0 g1; have g0 := (HB.out.below hB6).c 0 (by simp); have g1 := (HB.out.below hB6).c 1 (by simp); simp only [List.getElem?_toArray, List.getElem?_cons_zero, List.getElem?_cons_succ] at g0 g1) | (go_at_call 7; (with_reducible refine (HNO2.out _ hB6).mono ?_); rintro e w7 ⟨n2, cn2, rfl, hc2, hb7⟩; have hB7 := btrans hB6 hb7; have HC1 := hc1.below hb7; clear g0 g1; have HA7 := HA.out.below hB7; have HB7 := HB.out.below hB7; have HC7 := HC.out.below hB7; have KA7 := (hB7.block _ HA.out.lt).trans KA.out; have KB7 := (hB7.block _ HB.out.lt).trans KB.out; have f0 := HA7.c 0 (by simp); have f1 := HA7.c 1 (by simp); have fz := HA7.z; have g0 := HB7.c 0 (by simp); have g1 := HB7.c 1 (by simp); have gz := HB7.z; simp only [List.getElem?_toArray, List.getElem?_cons_zero, List.getElem?_cons_succ] at f0 f1 g0 g1)); go_wp2_with fail; refine hK.out _ _ ?_ (fun hq3 => ?_)) | fail
        · ((try dsimp only); (try trivial))
        clear hK K
        (try simp only [Act.put, List.setIfInBounds_toArray, List.set_cons_zero, List.set_cons_succ])
        clear hq2
        refine wpAnyH_ready (rs := [3]) (by kernel_rfl) (by simp) ?_
        refine AllReadyH.cons (o := ?_) ?_ (fun K hK => ?_) AllReadyH.nil
        rotate_left 1
        · (simp only [List.getElem?_toArray, List.getElem?_cons_succ, List.getElem?_cons_zero]; first | done | rfl)
        go_simp
        first | (refine hK.out _ _ ?_ (fun hq4 => ?_)) | ((first | (go_at_call 7; (with_reducible refine (HNO1.out w5.drew (bdrewN (Below.refl _ _) 1)).mono ?_); rintro e w6 ⟨n1, cn1, rfl, hc1, hb6⟩; have hB6 := bdrew0 hb6; clear f0 f1 g0 g1; have g0 := (HB.out.below hB6).c 0 (by simp); have g1 := (HB.out.below hB6).c 1 (by simp); simp only [List.getElem?_toArray, List.getElem?_cons_zero, List.getElem?_cons_succ] at g0 g1) | (go_at_call 7; (with_reducible refine (HNO2.out _ hB6).mono ?_); rintro e w7 ⟨n2, cn2, rfl, hc2, hb7⟩; have hB7 := btrans hB6 hb7; have HC1 := hc1.below hb7; clear g0 g1; have HA7 := HA.out.below hB7; have HB7 := HB.out.below hB7; have HC7 := HC.out.below hB7; have KA7 := (hB7.block _ HA.out.lt).trans KA.out; have KB7 := (hB7.block _ HB.out.lt).trans KB.out; have f0 := HA7.c 0 (by simp); have f1 := HA7.c 1 (by simp); have fz := HA7.z; have g0 := HB7.c 0 (by simp); have g1 := HB7.c 1 (by simp); have gz := HB7.z; simp only [List.getElem?_toArray, List.getElem?_cons_zero, List.getElem?_cons_succ] at f0 f1 g0 g1)); refine hK.out _ _ ?_ (fun hq4 => ?_)) | ((first | (go_at_call 7; (with_reducible refine (HNO1.out w5.drew (bdrewN (Below.refl _ _) 1)).mono ?_); rintro e w6 ⟨n1, cn1, rfl, hc1, hb6⟩; have hB6 := bdrew0 hb6; clear f0 f1 g0 g1; have g0 := (HB.out.below hB6).c 0 (by simp); have g1 := (HB.out.below hB6).c 1 (by simp); simp only [List.getElem?_toArray, List.getElem?_cons_zero, List.getElem?_cons_succ] at g0 g1) | (go_at_call 7; (with_reducible refine (HNO2.out _ hB6).mono ?_); rintro e w7 ⟨n2, cn2, rfl, hc2, hb7⟩; have hB7 := btrans hB6 hb7; have HC1 := hc1.below hb7; clear g0 g1; have HA7 := HA.out.below hB7; have HB7 := HB.out.below hB7; have HC7 := HC.out.below hB7; have KA7 := (hB7.block _ HA.out.lt).trans KA.out; have KB7 := (hB7.block _ HB.out.lt).trans KB.out; have f0 := HA7.c 0 (by simp); have f1 := HA7.c 1 (by simp); have fz := HA7.z; have g0 := HB7.c 0 (by simp); have g1 := HB7.c 1 (by simp); have gz := HB7.z; simp only [List.getElem?_toArray, List.getElem?_cons_zero, List.getElem?_cons_succ] at f0 f1 g0 g1)); go_wp2_with fail; refine hK.out _ _ ?_ (fun hq4 => ?_)) | fail
        · ((try dsimp only); (try trivial))
        clear hK K
        (try simp only [Act.put, List.setIfInBounds_toArray, List.set_cons_zero, List.set_cons_succ])
        clear hq3
        refine wpAnyH_ready (rs := [4]) (by kernel_rfl) (by simp) ?_
        refine AllReadyH.cons (o := ?_) ?_ (fun K hK => ?_) AllReadyH.nil
        rotate_left 1
        · (simp only [List.getElem?_toArray, List.getElem?_cons_succ, List.getElem?_cons_zero]; first | done | rfl)
        go_simp
        first | (refine hK.out _ _ ?_ (fun hq5 => ?_)) | ((first | (go_at_call 7; (with_reducible refine (HNO1.out w5.drew (bdrewN (Below.refl _ _) 1)).mono ?_); rintro e w6 ⟨n1, cn1, rfl, hc1, hb6⟩; have hB6 := bdrew0 hb6; clear f0 f1 g0 g1; have g0 := (HB.out.below hB6).c 0 (by simp); have g1 := (HB.out.below hB6).c 1 (by simp); simp only [List.getElem?_toArray, List.getElem?_cons_zero, List.getElem?_cons_succ] at g0 g1) | (go_at_call 7; (with_reducible refine (HNO2.out _ hB6).mono ?_); rintro e w7 ⟨n2, cn2, rfl, hc2, hb7⟩; have hB7 := btrans hB6 hb7; have HC1 := hc1.below hb7; clear g0 g1; have HA7 := HA.out.below hB7; have HB7 := HB.out.below hB7; have HC7 := HC.out.below hB7; have KA7 := (hB7.block _ HA.out.lt).trans KA.out; have KB7 := (hB7.block _ HB.out.lt).trans KB.out; have f0 := HA7.c 0 (by simp); have f1 := HA7.c 1 (by simp); have fz := HA7.z; have g0 := HB7.c 0 (by simp); have g1 := HB7.c 1 (by simp); have gz := HB7.z; simp only [List.getElem?_toArray, List.getElem?_cons_zero, List.getElem?_cons_succ] at f0 f1 g0 g1)); refine hK.out _ _ ?_ (fun hq5 => ?_)) | ((first | (go_at_call 7; (with_reducible refine (HNO1.out w5.drew (bdrewN (Below.refl _ _) 1)).mono ?_); rintro e w6 ⟨n1, cn1, rfl, hc1, hb6⟩; have hB6 := bdrew0 hb6; clear f0 f1 g0 g1; have g0 := (HB.out.below hB6).c 0 (by simp); have g1 := (HB.out.below hB6).c 1 (by simp); simp only [List.getElem?_toArray, List.getElem?_cons_zero, List.getElem?_cons_succ] at g0 g1) | (go_at_call 7; (with_reducible refine (HNO2.out _ hB6).mono ?_); rintro e w7 ⟨n2, cn2, rfl, hc2, hb7⟩; have hB7 := btrans hB6 hb7; have HC1 := hc1.below hb7; clear g0 g1; have HA7 := HA.out.below hB7; have HB7 := HB.out.below hB7; have HC7 := HC.out.below hB7; have KA7 := (hB7.block _ HA.out.lt).trans KA.out; have KB7 := (hB7.block _ HB.out.lt).trans KB.out; have f0 := HA7.c 0 (by simp); have f1 := HA7.c 1 (by simp); have fz := HA7.z; have g0 := HB7.c 0 (by simp); have g1 := HB7.c 1 (by simp); have gz := HB7.z; simp only [List.getElem?_toArray, List.getElem?_cons_zero, List.getElem?_cons_succ] at f0 f1 g0 g1)); go_wp2_with fail; refine hK.out _ _ ?_ (fun hq5 => ?_)) | fail
        · ((try dsimp only); (try trivial))
        clear hK K
        (try simp only [Act.put, List.setIfInBounds_toArray, List.set_cons_zero, List.set_cons_succ])
        clear hq4
        refine wpAnyH_ready (rs := [5]) (by kernel_rfl) (by simp) ?_
        refine AllReadyH.cons (o := ?_) ?_ (fun K hK => ?_) AllReadyH.nil
        rotate_left 1
        · (simp only [List.getElem?_toArray, List.getElem?_cons_succ, List.getElem?_cons_zero]; first | done | rfl)
        go_simp
        first | (refine hK.out _ _ ?_ (fun hq6 => ?_)) | ((first | (go_at_call 7; (with_reducible refine (HNO1.out w5.drew (bdrewN (Below.refl _ _) 1)).mono ?_); rintro e w6 ⟨n1, cn1, rfl, hc1, hb6⟩; have hB6 := bdrew0 hb6; clear f0 f1 g0 g1; have g0 := (HB.out.below hB6).c 0 (by simp); have g1 := (HB.out.below hB6).c 1 (by simp); simp only [List.getElem?_toArray, List.getElem?_cons_zero, List.getElem?_cons_succ] at g0 g1) | (go_at_call 7; (with_reducible refine (HNO2.out _ hB6).mono ?_); rintro e w7 ⟨n2, cn2, rfl, hc2, hb7⟩; have hB7 := btrans hB6 hb7; have HC1 := hc1.below hb7; clear g0 g1; have HA7 := HA.out.below hB7; have HB7 := HB.out.below hB7; have HC7 := HC.out.below hB7; have KA7 := (hB7.block _ HA.out.lt).trans KA.out; have KB7 := (hB7.block _ HB.out.lt).trans KB.out; have f0 := HA7.c 0 (by simp); have f1 := HA7.c 1 (by simp); have fz := HA7.z; have g0 := HB7.c 0 (by simp); have g1 := HB7.c 1 (by simp); have gz := HB7.z; simp only [List.getElem?_toArray, List.getElem?_cons_zero, List.getElem?_cons_succ] at f0 f1 g0 g1)); refine hK.out _ _ ?_ (fun hq6 => ?_)) | ((first | (go_at_call 7; (with_reducible refine (HNO1.out w5.drew (bdrewN (Below.refl _ _) 1)).mono ?_); rintro e w6 ⟨n1, cn1, rfl, hc1, hb6⟩; have hB6 := bdrew0 hb6; clear f0 f1 g0 g1; have g0 := (HB.out.below hB6).c 0 (by simp); have g1 := (HB.out.below hB6).c 1 (by simp); simp only [List.getElem?_toArray, List.getElem?_cons_zero, List.getElem?_cons_succ] at g0 g1) | (go_at_call 7; (with_reducible refine (HNO2.out _ hB6).mono ?_); rintro e w7 ⟨n2, cn2, rfl, hc2, hb7⟩; have hB7 := btrans hB6 hb7; have HC1 := hc1.below hb7; clear g0 g1; have HA7 := HA.out.below hB7; have HB7 := HB.out.below hB7; have HC7 := HC.out.below hB7; have KA7 := (hB7.block _ HA.out.lt).trans KA.out; have KB7 := (hB7.block _ HB.out.lt).trans KB.out; have f0 := HA7.c 0 (by simp); have f1 := HA7.c 1 (by simp); have fz := HA7.z; have g0 := HB7.c 0 (by simp); have g1 := HB7.c 1 (by simp); have gz := HB7.z; simp only [List.getElem?_toArray, List.getElem?_cons_zero, List.getElem?_cons_succ] at f0 f1 g0 g1)); go_wp2_with fail; refine hK.out _ _ ?_ (fun hq6 => ?_)) | fail
        · ((try dsimp only); (try trivial))
        clear hK K
        (try simp only [Act.put, List.setIfInBounds_toArray, List.set_cons_zero, List.set_cons_succ])
        clear hq5
        refine wpAnyH_done (by kernel_rfl) ?_ _
        (go_wp2_with fail; go_meet; exact cut_end HA7 HB7 HC7 HC1 hc2 hpab hpac hpbc (btrans HBR.out hB7) hpw KA7 KB7 rfl)
    · skip
      go_simp
      first | (refine hK.out _ _ ?_ (fun hq1 => ?_)) | ((first | (go_at_call 7; (with_reducible refine (HNO1.out w5.drew (bdrewN (Below.refl _ _) 1)).mono ?_); rintro e w6 ⟨n1, cn1, rfl, hc1, hb6⟩; have hB6 := bdrew0 hb6; clear f0 f1 g0 g1; have g0 := (HB.out.below hB6).c 0 (by simp); have g1 := (HB.out.below hB6).c 1 (by simp); simp only [List.getElem?_toArray, List.getElem?_cons_zero, List.getElem?_cons_succ] at g0 g1) | (go_at_call 7; (with_reducible refine (HNO2.out _ hB6).mono ?_); rintro e w7 ⟨n2, cn2, rfl, hc2, hb7⟩; have hB7 := btrans hB6 hb7; have HC1 := hc1.below hb7; clear g0 g1; have HA7 := HA.out.below hB7; have HB7 := HB.out.below hB7; have HC7 := HC.out.below hB7; have KA7 := (hB7.block _ HA.out.lt).trans KA.out; have KB7 := (hB7.block _ HB.out.lt).trans KB.out; have f0 := HA7.c 0 (by simp); have f1 := HA7.c 1 (by simp); have fz := HA7.z; have g0 := HB7.c 0 (by simp); have g1 := HB7.c 1 (by simp); have gz := HB7.z; simp only [List.getElem?_toArray, List.getElem?_cons_zero, List.getElem?_cons_succ] at f0 f1 g0 g1)); refine hK.out _ _ ?_ (fun hq1 => ?_)) | ((first | (go_at_call 7; (with_reducible refine (HNO1.out w5.drew (bdrewN (Below.refl _ _) 1)).mono ?_); rintro e w6 ⟨n1, cn1, rfl, hc1, hb6⟩; have hB6 := bdrew0 hb6; clear f0 f1 g0 g1; have g0 := (HB.out.below hB6).c 0 (by simp); have g1 := (HB.out.below hB6).c 1 (by simp); simp only [List.getElem?_toArray, List.getElem?_cons_zero, List.getElem?_cons_succ] at g0 g1) | (go_at_call 7; (with_reducible refine (HNO2.out _ hB6).mono ?_); rintro e w7 ⟨n2, cn2, rfl, hc2, hb7⟩; have hB7 := btrans hB6 hb7; have HC1 := hc1.below hb7; clear g0 g1; have HA7 := HA.out.below hB7; have HB7 := HB.out.below hB7; have HC7 := HC.out.below hB7; have KA7 := (hB7.block _ HA.out.lt).trans KA.out; have KB7 := (hB7.block _ HB.out.lt).trans KB.out; have f0 := HA7.c 0 (by simp); have f1 := HA7.c 1 (by simp); have fz := HA7.z; have g0 := HB7.c 0 (by simp); have g1 := HB7.c 1 (by simp); have gz := HB7.z; simp only [List.getElem?_toArray, List.getElem?_cons_zero, List.getElem?_cons_succ] at f0 f1 g0 g1)); go_wp2_with fail; refine hK.out _ _ ?_ (fun hq1 => ?_)) | fail
      · ((try dsimp only); (try trivial))
      clear hK K
      (try simp only [Act.put, List.setIfInBounds_toArray, List.set_cons_zero, List.set_cons_succ])
      clear hq0
      refine wpAnyH_ready (rs := [0]) (by kernel_rfl) (by simp) ?_
      refine AllReadyH.cons (o := ?_) ?_ (fun K hK => ?_) AllReadyH.nil
      rotate_left 1
      · (simp only [List.getElem?_toArray, List.getElem?_cons_zero]; first | done | rfl)
      go_simp
      first | (refine hK.out _ _ ?_ (fun hq2 => ?_)) | ((first | (go_at_call 7; (with_reducible refine (HNO1.out w5.drew (bdrewN (Below.refl _ _) 1)).mono ?_); rintro e w6 ⟨n1, cn1, rfl, hc1, hb6⟩; have hB6 := bdrew0 hb6; clear f0 f1 g0 g1; have g0 := (HB.out.below hB6).c 0 (by simp); have g1 := (HB.out.below hB6).c 1 (by simp); simp only [List.getElem?_toArray, List.getElem?_cons_zero, List.getElem?_cons_succ] at g0 g1) | (go_at_call 7; (with_reducible refine (HNO2.out _ hB6).mono ?_); rintro e w7 ⟨n2, cn2, rfl, hc2, hb7⟩; have hB7 := btrans hB6 hb7; have HC1 := hc1.below hb7; clear g0 g1; have HA7 := HA.out.below hB7; have HB7 := HB.out.below hB7; have HC7 := HC.out.below hB7; have KA7 := (hB7.block _ HA.out.lt).trans KA.out; have KB7 := (hB7.block _ HB.out.lt).trans KB.out; have f0 := HA7.c 0 (by simp); have f1 := HA7.c 1 (by simp); have fz := HA7.z; have g0 := HB7.c 0 (by simp); have g1 := HB7.c 1 (by simp); have gz := HB7.z; simp only [List.getElem?_toArray, List.getElem?_cons_zero, List.getElem?_cons_succ] at f0 f1 g0 g1)); refine hK.out _ _ ?_ (fun hq2 => ?_)) | ((first | (go_at_call 7; (with_reducible refine (HNO1.out w5.drew (bdrewN (Below.refl _ _) 1)).mono ?_); rintro e w6 ⟨n1, cn1, rfl, hc1, hb6⟩; have hB6 := bdrew0 hb6; clear f0 f1 g0 g1; have g0 := (HB.out.below hB6).c 0 (by simp); have g1 := (HB.out.below hB6).c 1 (by simp); simp only [List.getElem?_toArray, List.getElem?_cons_zero, List.getElem?_cons_succ] at g0 g1) | (go_at_call 7; (with_reducible refine (HNO2.out _ hB6).mono ?_); rintro e w7 ⟨n2, cn2, rfl, hc2, hb7⟩; have hB7 := btrans hB6 hb7; have HC1 := hc1.below hb7; clear g0 g1; have HA7 := HA.out.below hB7; have HB7 := HB.out.below hB7; have HC7 := HC.out.below hB7; have KA7 := (hB7.block _ HA.out.lt).trans KA.out; have KB7 := (hB7.block _ HB.out.lt).trans KB.out; have f0 := HA7.c 0 (by simp); have f1 := HA7.c 1 (by simp); have fz := HA7.z; have g0 := HB7.c 0 (by simp); have g1 := HB7.c 1 (by simp); have gz := HB7.z; simp only [List.getElem?_toArray, List.getElem?_cons_zero, List.getElem?_cons_succ] at f0 f1 g0 g1)); go_wp2_with fail; refine hK.out _ _ ?_ (fun hq2 => ?_)) | fail
      · ((try dsimp only); (try trivial))
      clear hK K
      (try simp only [Act.put, List.setIfInBounds_toArray, List.set_cons_zero, List.set_cons_succ])
      clear hq1
      refine wpAnyH_ready (rs := [1]) (by kernel_rfl) (by simp) ?_
      refine AllReadyH.cons (o := ?_) ?_ (fun K hK => ?_) AllReadyH.nil
      rotate_left 1
      · (simp only [List.getElem?_toArray, List.getElem?_cons_succ, List.getElem?_cons_zero]; first | done | rfl)
      go_simp
      first | (refine hK.out _ _ ?_ (fun hq3 => ?_)) | ((first | (go_at_call 7; (with_reducible refine (HNO1.out w5.drew (bdrewN (Below.refl _ _) 1)).mono ?_); rintro e w6 ⟨n1, cn1, rfl, hc1, hb6⟩; have hB6 := bdrew0 hb6; clear f0 f1 g0 g1; have g0 := (HB.out.below hB6).c 0 (by simp); have g1 := (HB.out.below hB6).c 1 (by simp); simp only [List.getElem?_toArray, List.getElem?_cons_zero, List.getElem?_cons_succ] at g0 g1) | (go_at_call 7; (with_reducible refine (HNO2.out _ hB6).mono ?_); rintro e w7 ⟨n2, cn2, rfl, hc2, hb7⟩; have hB7 := btrans hB6 hb7; have HC1 := hc1.below hb7; clear g0 g1; have HA7 := HA.out.below hB7; have HB7 := HB.out.below hB7; have HC7 := HC.out.below hB7; have KA7 := (hB7.block _ HA.out.lt).trans KA.out; have KB7 := (hB7.block _ HB.out.lt).trans KB.out; have f0 := HA7.c 0 (by simp); have f1 := HA7.c 1 (by simp); have fz := HA7.z; have g0 := HB7.c 0 (by simp); have g1 := HB7.c 1 (by simp); have gz := HB7.z; simp only [List.getElem?_toArray, List.getElem?_cons_zero, List.getElem?_cons_succ] at f0 f1 g0 g1)); refine hK.out _ _ ?_ (fun hq3 => ?_)) | ((first | (go_at_call 7; (with_reducible refine (HNO1.out w5.drew (bdrewN (Below.refl _ _) 1)).mono ?_); rintro e w6 ⟨n1, cn1, rfl, hc1, hb6⟩; have hB6 := bdrew0 hb6; clear f0 f1 g0 g1; have g0 := (HB.out.below hB6).c 0 (by simp); have g1 := (HB.out.below hB6).c 1 (by simp); simp only [List.getElem?_toArray, List.getElem?_cons_zero, List.getElem?_cons_succ] at g0 g1) | (go_at_call 7; (with_reducible refine (HNO2.out _ hB6).mono ?_); rintro e w7 ⟨n2, cn2, rfl, hc2, hb7⟩; have hB7 := btrans hB6 hb7; have HC1 := hc1.below hb7; clear g0 g1; have HA7 := HA.out.below hB7; have HB7 := HB.out.below hB7; have HC7 := HC.out.below hB7; have KA7 := (hB7.block _ HA.out.lt).trans KA.out; have KB7 := (hB7.block _ HB.out.lt).trans KB.out; have f0 := HA7.c 0 (by simp); have f1 := HA7.c 1 (by simp); have fz := HA7.z; have g0 := HB7.c 0 (by simp); have g1 := HB7.c 1 (by simp); have gz := HB7.z; simp only [List.getElem?_toArray, List.getElem?_cons_zero, List.getElem?_cons_succ] at f0 f1 g0 g1)); go_wp2_with fail; refine hK.out _ _ ?_ (fun hq3 => ?_)) | fail
      · ((try dsimp only); (try trivial))
      clear hK K
      (try simp only [Act.put, List.setIfInBounds_toArray, List.set_cons_zero, List.set_cons_succ])
      clear hq2
      refine wpAnyH_ready (rs := [3]) (by kernel_rfl) (by simp) ?_
      refine AllReadyH.cons (o := ?_) ?_ (fun K hK => ?_) AllReadyH.nil
      rotate_left 1
      · (simp only [List.getElem?_toArray, List.getElem?_cons_succ, List.getElem?_cons_zero]; first | done | rfl)
      go_simp
      first | (refine hK.out _ _ ?_ (fun hq4 => ?_)) | ((first | (go_at_call 7; (with_reducible refine (HNO1.out w5.drew (bdrewN (Below.refl _ _) 1)).mono ?_); rintro e w6 ⟨n1, cn1, rfl, hc1, hb6⟩; have hB6 := bdrew0 hb6; clear f0 f1 g0 g1; have g0 := (HB.out.below hB6).c 0 (by simp); have g1 := (HB.out.below hB6).c 1 (by simp); simp only [List.getElem?_toArray, List.getElem?_cons_zero, List.getElem?_cons_succ] at g0 g1) | (go_at_call 7; (with_reducible refine (HNO2.out _ hB6).mono ?_); rintro e w7 ⟨n2, cn2, rfl, hc2, hb7⟩; have hB7 := btrans hB6 hb7; have HC1 := hc1.below hb7; clear g0 g1; have HA7 := HA.out.below hB7; have HB7 := HB.out.below hB7; have HC7 := HC.out.below hB7; have KA7 := (hB7.block _ HA.out.lt).trans KA.out; have KB7 := (hB7.block _ HB.out.lt).trans KB.out; have f0 := HA7.c 0 (by simp); have f1 := HA7.c 1 (by simp); have fz := HA7.z; have g0 := HB7.c 0 (by simp); have g1 := HB7.c 1 (by simp); have gz := HB7.z; simp only [List.getElem?_toArray, List.getElem?_cons_zero, List.getElem?_cons_succ] at f0 f1 g0 g1)); refine hK.out _ _ ?_ (fun hq4 => ?_)) | ((first | (go_at_call 7; (with_reducible refine (HNO1.out w5.drew (bdrewN (Below.refl _ _) 1)).mono ?_); rintro e w6 ⟨n1, cn1, rfl, hc1, hb6⟩; have hB6 := bdrew0 hb6; clear f0 f1 g0 g1; have g0 := (HB.out.below hB6).c 0 (by simp); have g1 := (HB.out.below hB6).c 1 (by simp); simp only [List.getElem?_toArray, List.getElem?_cons_zero, List.getElem?_cons_succ] at g0 g1) | (go_at_call 7; (with_reducible refine (HNO2.out _ hB6).mono ?_); rintro e w7 ⟨n2, cn2, rfl, hc2, hb7⟩; have hB7 := btrans hB6 hb7; have HC1 := hc1.below hb7; clear g0 g1; have HA7 := HA.out.below hB7; have HB7 := HB.out.below hB7; have HC7 := HC.out.below hB7; have KA7 := (hB7.block _ HA.out.lt).trans KA.out; have KB7 := (hB7.block _ HB.out.lt).trans KB.out; have f0 := HA7.c 0 (by simp); have f1 := HA7.c 1 (by simp); have fz := HA7.z; have g0 := HB7.c 0 (by simp); have g1 := HB7.c 1 (by simp); have gz := HB7.z; simp only [List.getElem?_toArray, List.getElem?_cons_zero, List.getElem?_cons_succ] at f0 f1 g0 g1)); go_wp2_with fail; refine hK.out _ _ ?_ (fun hq4 => ?_)) | fail
      · ((try dsimp only); (try trivial))
      clear hK K
      (try simp only [Act.put, List.setIfInBounds_toArray, List.set_cons_zero, List.set_cons_succ])
      clear hq3
      refine wpAnyH_ready (rs := [4]) (by kernel_rfl) (by simp) ?_
      refine AllReadyH.cons (o := ?_) ?_ (fun K hK => ?_) AllReadyH.nil
      rotate_left 1
      · (simp only [List.getElem?_toArray, List.getElem?_cons_succ, List.getElem?_cons_zero]; first | done | rfl)
      go_simp
      first | (refine hK.out _ _ ?_ (fun hq5 => ?_)) | ((first | (go_at_call 7; (with_reducible refine (HNO1.out w5.drew (bdrewN (Below.refl _ _) 1)).mono ?_); rintro e w6 ⟨n1, cn1, rfl, hc1, hb6⟩; have hB6 := bdrew0 hb6; clear f0 f1 g0 g1; have g0 := (HB.out.below hB6).c 0 (by simp); have g1 := (HB.out.below hB6).c 1 (by simp); simp only [List.getElem?_toArray, List.getElem?_cons_zero, List.getElem?_cons_succ] at g0 g1) | (go_at_call 7; (with_reducible refine (HNO2.out _ hB6).mono ?_); rintro e w7 ⟨n2, cn2, rfl, hc2, hb7⟩; have hB7 := btrans hB6 hb7; have HC1 := hc1.below hb7; clear g0 g1; have HA7 := HA.out.below hB7; have HB7 := HB.out.below hB7; have HC7 := HC.out.below hB7; have KA7 := (hB7.block _ HA.out.lt).trans KA.out; have KB7 := (hB7.block _ HB.out.lt).trans KB.out; have f0 := HA7.c 0 (by simp); have f1 := HA7.c 1 (by simp); have fz := HA7.z; have g0 := HB7.c 0 (by simp); have g1 := HB7.c 1 (by simp); have gz := HB7.z; simp only [List.getElem?_toArray, List.getElem?_cons_zero, List.getElem?_cons_succ] at f0 f1 g0 g1)); refine hK.out _ _ ?_ (fun hq5 => ?_)) | ((first | (go_at_call 7; (with_reducible refine (HNO1.out w5.drew (bdrewN (Below.refl _ _) 1)).mono ?_); rintro e w6 ⟨n1, cn1, rfl, hc1, hb6⟩; have hB6 := bdrew0 hb6; clear f0 f1 g0 g1; have g0 := (HB.out.below hB6).c 0 (by simp); have g1 := (HB.out.below hB6).c 1 (by simp); simp only [List.getElem?_toArray, List.getElem?_cons_zero, List.getElem?_cons_succ] at g0 g1) | (go_at_call 7; (with_reducible refine (HNO2.out _ hB6).mono ?_); rintro e w7 ⟨n2, cn2, rfl, hc2, hb7⟩; have hB7 := btrans hB6 hb7; have HC1 := hc1.below hb7; clear g0 g1; have HA7 := HA.out.below hB7; have HB7 := HB.out.below hB7; have HC7 := HC.out.below hB7; have KA7 := (hB7.block _ HA.out.lt).trans KA.out; have KB7 := (hB7.block _ HB.out.lt).trans KB.out; have f0 := HA7.c 0 (by simp); have f1 := HA7.c 1 (by simp); have fz := HA7.z; have g0 := HB7.c 0 (by simp); have g1 := HB7.c 1 (by simp); have gz := HB7.z; simp only [List.getElem?_toArray, List.getElem?_cons_zero, List.getElem?_cons_succ] at f0 f1 g0 g1)); go_wp2_with fail; refine hK.out _ _ ?_ (fun hq5 => ?_)) | fail
      · ((try dsimp only); (try trivial))
      clear hK K
      (try simp only [Act.put, List.setIfInBounds_toArray, List.set_cons_zero, List.set_cons_succ])
      clear hq4
      refine wpAnyH_ready (rs := [5]) (by kernel_rfl) (by simp) ?_
      refine AllReadyH.cons (o := ?_) ?_ (fun K hK => ?_) AllReadyH.nil
      rotate_left 1
      · (simp only [List.getElem?_toArray, List.getElem?_cons_succ, List.getElem?_cons_zero]; first | done | rfl)
      go_simp
      first | (refine hK.out _ _ ?_ (fun hq6 => ?_)) | ((first | (go_at_call 7; (with_reducible refine (HNO1.out w5.drew (bdrewN (Below.refl _ _) 1)).mono ?_); rintro e w6 ⟨n1, cn1, rfl, hc1, hb6⟩; have hB6 := bdrew0 hb6; clear f0 f1 g0 g1; have g0 := (HB.out.below hB6).c 0 (by simp); have g1 := (HB.out.below hB6).c 1 (by simp); simp only [List.getElem?_toArray, List.getElem?_cons_zero, List.getElem?_cons_succ] at g0 g1) | (go_at_call 7; (with_reducible refine (HNO2.out _ hB6).mono ?_); rintro e w7 ⟨n2, cn2, rfl, hc2, hb7⟩; have hB7 := btrans hB6 hb7; have HC1 := hc1.below hb7; clear g0 g1; have HA7 := HA.out.below hB7; have HB7 := HB.out.below hB7; have HC7 := HC.out.below hB7; have KA7 := (hB7.block _ HA.out.lt).trans KA.out; have KB7 := (hB7.block _ HB.out.lt).trans KB.out; have f0 := HA7.c 0 (by simp); have f1 := HA7.c 1 (by simp); have fz := HA7.z; have g0 := HB7.c 0 (by simp); have g1 := HB7.c 1 (by simp); have gz := HB7.z; simp only [List.getElem?_toArray, List.getElem?_cons_zero, List.getElem?_cons_succ] at f0 f1 g0 g1)); refine hK.out _ _ ?_ (fun hq6 => ?_)) | ((first | (go_at_call 7; (with_reducible refine (HNO1.out w5.drew (bdrewN (Below.refl _ _) 1)).mono ?_); rintro e w6 ⟨n1, cn1, rfl, hc1, hb6⟩; have hB6 := bdrew0 hb6; clear f0 f1 g0 g1; have g0 := (HB.out.below hB6).c 0 (by simp); have g1 := (HB.out.below hB6).c 1 (by simp); simp only [List.getElem?_toArray, List.getElem?_cons_zero, List.getElem?_cons_succ] at g0 g1) | (go_at_call 7; (with_reducible refine (HNO2.out _ hB6).mono ?_); rintro e w7 ⟨n2, cn2, rfl, hc2, hb7⟩; have hB7 := btrans hB6 hb7; have HC1 := hc1.below hb7; clear g0 g1; have HA7 := HA.out.below hB7; have HB7 := HB.out.below hB7; have HC7 := HC.out.below hB7; have KA7 := (hB7.block _ HA.out.lt).trans KA.out; have KB7 := (hB7.block _ HB.out.lt).trans KB.out; have f0 := HA7.c 0 (by simp); have f1 := HA7.c 1 (by simp); have fz := HA7.z; have g0 := HB7.c 0 (by simp); have g1 := HB7.c 1 (by simp); have gz := HB7.z; simp only [List.getElem?_toArray, List.getElem?_cons_zero, List.getElem?_cons_succ] at f0 f1 g0 g1)); go_wp2_with fail; refine hK.out _ _ ?_ (fun hq6 => ?_)) | fail
      · ((try dsimp only); (try trivial))
      clear hK K
      (try simp only [Act.put, List.setIfInBounds_toArray, List.set_cons_zero, List.set_cons_succ])
      clear hq5
      refine wpAnyH_done (by kernel_rfl) ?_ _
      (go_wp2_with fail; go_meet; exact cut_end HA7 HB7 HC7 HC1 hc2 hpab hpac hpbc (btrans HBR.out hB7) hpw KA7 KB7 rfl)
  case rest => as_aux_lemma =>
    obtain ⟨n1, cn1, n2, cn2, HA9, HB9, HC9, CN1, CN2, HBW⟩ := hcut
    clear HNO1 HNO2 HA HB HC HBR KA KB f0 f1 g0 g1
    have f0 := HA9.out.c 0 (by simp); have f1 := HA9.out.c 1 (by simp); have g0 := HB9.out.c 0 (by simp); have g1 := HB9.out.c 1 (by simp); have h0 := HC9.out.c 0 (by simp); have h1 := HC9.out.c 1 (by simp)
    simp only [List.getElem?_toArray, List.getElem?_cons_zero, List.getElem?_cons_succ] at f0 f1 g0 g1 h0 h1
    go_upto_region 7 with fail
    obtain ⟨A1, hA1, eA1⟩ := and_small m0 1 1 (by decide) (by decide)
    obtain ⟨A2, hA2, eA2⟩ := and_small m1 1 1 (by decide) (by decide)
    replace eA1 : bits .and .i64 m0 1 = (A1 : Int) := eA1
    replace eA2 : bits .and .i64 m1 1 = (A2 : Int) := eA2
    obtain ⟨K1, hK1⟩ : ∃ K1 : Int, wrap64 (1 + bits .and .i64 m0 1) = K1 := ⟨_, rfl⟩
    obtain ⟨K2, hK2⟩ : ∃ K2 : Int, wrap64 (1 + bits .and .i64 m1 1) = K2 := ⟨_, rfl⟩
    have k12 : K1 = 1 ∨ K1 = 2 := by
      rw [eA1] at hK1; unfold wrap64 at hK1; omega
    have k22 : K2 = 1 ∨ K2 = 2 := by
      rw [eA2] at hK2; unfold wrap64 at hK2; omega
    clear eA1 eA2 hA1 hA2
    rw [hK1]
    have hX6 := boxm_new wc #[.int .i64 K1, .int .i64 0, .int .i64 0, .int .i64 0, .string ⟨#[]⟩, .int .i64 0, .string ⟨#[]⟩, .slice none 0 0, .string ⟨#[]⟩, .int .i64 0, .string ⟨s1.toArray⟩, .slice n1 N1.length cn1, .string ⟨#[]⟩, .slice none 0 0, .int .i64 0, .string ⟨#[]⟩, .int .i64 0] 35 (by simp)
    have hb6 := balloc wc (.cells #[.int .i64 K1, .int .i64 0, .int .i64 0, .int .i64 0, .string ⟨#[]⟩, .int .i64 0, .string ⟨#[]⟩, .slice none 0 0, .string ⟨#[]⟩, .int .i64 0, .string ⟨s1.toArray⟩, .slice n1 N1.length cn1, .string ⟨#[]⟩, .slice none 0 0, .int .i64 0, .string ⟨#[]⟩, .int .i64 0] 35)
    generalize World.alloc wc _ = W6 at *
    have hA6 := HA9.out.below hb6; have hB6 := HB9.out.below hb6; have hC6 := HC9.out.below hb6
    have cn16 := CN1.out.below hb6; have cn26 := CN2.out.below hb6
    have hB60 := btrans HBW.out hb6
    clear f0 f1 g0 g1 h0 h1 HA9 HB9 HC9 CN1 CN2 HBW
    generalize wc.heap.size = px at *
    have g0 := hB6.c 0 (by simp); have g1 := hB6.c 1 (by simp); have h1 := hC6.c 1 (by simp)
    simp only [List.getElem?_toArray, List.getElem?_cons_zero, List.getElem?_cons_succ] at g0 g1 h1
    have HA6 := Lib.hid hA6; have HB6 := Lib.hid hB6; have HX6 := Lib.hid hX6; have CN16 := Lib.hid cn16; have CN26 := Lib.hid cn26; have HB60 := Lib.hid hB60
    clear hA6 hB6 hX6 hC6 cn16 cn26 hB60 hb6
    go_upto_region 8 with fail
    rw [hK2]
    have hY9 := boxm_new W6 #[.int .i64 K2, .int .i64 0, .int .i64 0, .int .i64 0, .string ⟨#[]⟩, .int .i64 0, .string ⟨#[]⟩, .slice none 0 0, .string ⟨#[]⟩, .int .i64 0, .string ⟨s2.toArray⟩, .slice n2 N2.length cn2, .string ⟨#[]⟩, .slice none 0 0, .int .i64 0, .string ⟨#[]⟩, .int .i64 0] 35 (by simp)
    have hb9 := balloc W6 (.cells #[.int .i64 K2, .int .i64 0, .int .i64 0, .int .i64 0, .string ⟨#[]⟩, .int .i64 0, .string ⟨#[]⟩, .slice none 0 0, .string ⟨#[]⟩, .int .i64 0, .string ⟨s2.toArray⟩, .slice n2 N2.length cn2, .string ⟨#[]⟩, .slice none 0 0, .int .i64 0, .string ⟨#[]⟩, .int .i64 0] 35)
    generalize World.alloc W6 _ = W9 at *
    have HA9 := Lib.hid (HA6.out.below hb9); have HB9 := Lib.hid (HB6.out.below hb9); have HX9 := Lib.hid (HX6.out.below hb9)
    have cd1 := CN16.out.below hb9; have cd2 := CN26.out.below hb9
    have hB90 := btrans HB60.out hb9
    clear g0 g1 h1 HA6 HB6 HX6 CN16 CN26 HB60 hb9
    generalize W6.heap.size = py at *
    have HY9 := Lib.hid hY9; have HBF := Lib.hid hB90
    have hp1 := fun (W : World) (hW : Below W9.heap.size W9 W) => HPR1.out n1 cn1 W (btrans hB90 hW) (cd1.below hW)
    have hp2 := fun (W : World) (hW : Below W9.heap.size W9 W) => HPR2.out n2 cn2 W (btrans hB90 hW) (cd2.below hW)
    obtain ⟨S1, hS1⟩ : ∃ S1, [byteOf K1] ++ encFilter s1 N1 = S1 := ⟨_, rfl⟩
    obtain ⟨S2, hS2⟩ : ∃ S2, [byteOf K2] ++ encFilter s2 N2 = S2 := ⟨_, rfl⟩
    have hm1 : ∀ W, Below W9.heap.size W9 W → Calls Tryz.prog 9 #[.agg #[.int .i64 K1, .int .i64 0, .int .i64 0, .int .i64 0, .string ⟨#[]⟩, .int .i64 0, .string ⟨#[]⟩, .slice none 0 0, .string ⟨#[]⟩, .int .i64 0, .string ⟨s1.toArray⟩, .slice n1 N1.length cn1, .string ⟨#[]⟩, .slice none 0 0, .int .i64 0, .string ⟨#[]⟩, .int .i64 0]] W fun e w' => Lays W S1 e w' := fun W hW => by
      rw [← hS1]
      exact msg_sub ⟨K1, 0, ⟨⟨0, 0, [], 0⟩, 0, [], none, 0, 0, []⟩, s1, n1, N1.length, cn1, [], none, 0, 0, 0, [], 0⟩ N1 W (by show K1 ≠ 0; omega) (by show K1 ≠ 3; omega) (cd1.below hW) rfl HNM1.out (by have := HL1.out; show 1 + (encFilter s1 N1).length ≤ _; omega) (by omega)
    have hm2 : ∀ W, Below W9.heap.size W9 W → Calls Tryz.prog 9 #[.agg #[.int .i64 K2, .int .i64 0, .int .i64 0, .int .i64 0, .string ⟨#[]⟩, .int .i64 0, .string ⟨#[]⟩, .slice none 0 0, .string ⟨#[]⟩, .int .i64 0, .string ⟨s2.toArray⟩, .slice n2 N2.length cn2, .string ⟨#[]⟩, .slice none 0 0, .int .i64 0, .string ⟨#[]⟩, .int .i64 0]] W fun e w' => Lays W S2 e w' := fun W hW => by
      rw [← hS2]
      exact msg_sub ⟨K2, 0, ⟨⟨0, 0, [], 0⟩, 0, [], none, 0, 0, []⟩, s2, n2, N2.length, cn2, [], none, 0, 0, 0, [], 0⟩ N2 W (by show K2 ≠ 0; omega) (by show K2 ≠ 3; omega) (cd2.below hW) rfl HNM2.out (by have := HL2.out; show 1 + (encFilter s2 N2).length ≤ _; omega) (by omega)
    have hne1 : S1 ≠ [] := by rw [← hS1]; simp
    have hne2 : S2 ≠ [] := by rw [← hS2]; simp
    obtain ⟨sb, hsb⟩ : ∃ sb, (S1 == S2) = sb := ⟨_, rfl⟩
    have hkt : sb = ((K1 == K2) && (T1 == T2)) := by
      rw [← hsb, Bool.eq_iff_iff, Bool.and_eq_true, beq_iff_eq, beq_iff_eq, beq_iff_eq, ← hS1, ← hS2, HEQ.out]
      constructor
      · intro h
        rw [List.singleton_append, List.singleton_append] at h
        injection h with e1 e2
        exact ⟨byteOf_inj (by omega) (by omega) e1, e2⟩
      · rintro ⟨e1, e2⟩
        rw [e1, e2]
    have HP1 := Lib.hid hp1; have HP2 := Lib.hid hp2; have HMG1 := Lib.hid hm1; have HMG2 := Lib.hid hm2; have HNE1 := Lib.hid hne1; have HNE2 := Lib.hid hne2; have HSB := Lib.hid hsb; have HKT := Lib.hid hkt
    clear hp1 hp2 hm1 hm2 hne1 hne2 hsb hkt hY9 hB90 cd1 cd2 hS1 hS2 HEQ HPR1 HPR2 HL1 HL2 HNM1 HNM2 hK1 hK2 k12 k22
    go_cut [9] (fun v wx => v = .bool sb ∧ Hid (Below W9.heap.size W9 wx))
    case first => as_aux_lemma =>
      cases hk : (K1 == K2)
      · obtain rfl : sb = false := by rw [HKT.out, hk]; rfl
        clear HKT HSB
        refine wp_region_held_drew (S := (fun w' => w'.cell? ⟨w.heap.size, 0, none⟩ = some (.string ⟨s1.toArray⟩) ∧ w'.cell? ⟨w.heap.size, 1, none⟩ = some (.slice n1 N1.length cn1) ∧ w'.cell? ⟨pb, 0, none⟩ = some (.string ⟨s2.toArray⟩) ∧ w'.cell? ⟨pb, 1, none⟩ = some (.slice n2 N2.length cn2) ∧ w'.cell? ⟨px, 0, none⟩ = some (.int .i64 K1) ∧ w'.cell? ⟨py, 0, none⟩ = some (.int .i64 K2) ∧ Below W9.heap.size W9 w')) (by kernel_rfl) ?_ (fun hq0 => ?_)
        · ((try dsimp only); (first | exact s8_of HA9.out HB9.out HX9.out HY9.out (bdrewN (Below.refl _ _) 1) | assumption | exact s8_of HA9.out HB9.out HX9.out HY9.out (btrans (s8_own (by assumption)) (by assumption))))
        (refine wpAnyH_take (i := 0) (oi := ?_) (v := ?_) ?_ (by kernel_rfl) (by kernel_rfl) (by kernel_rfl) ?_ (Or.inl ⟨?_, ?_⟩) (by assumption) ?_; rotate_left 2; (· (simp only [List.getElem?_toArray, List.getElem?_cons_zero]; first | done | rfl)); (· exact (fun _ _ _ h => h)); (· rfl); (· (intro w hSw; (try dsimp only at hSw); go_simp; (try with_reducible rfl))))
        (try simp only [Act.put, List.setIfInBounds_toArray, List.set_cons_zero, List.set_cons_succ])
        (refine wpAnyH_take (i := 1) (oi := ?_) (v := ?_) ?_ (by kernel_rfl) (by kernel_rfl) (by kernel_rfl) ?_ (Or.inl ⟨?_, ?_⟩) (by assumption) ?_; rotate_left 2; (· (simp only [List.getElem?_toArray, List.getElem?_cons_succ, List.getElem?_cons_zero]; first | done | rfl)); (· exact (fun _ _ _ h => h)); (· rfl); (· (intro w hSw; (try dsimp only at hSw); go_simp; (try with_reducible rfl))))
        (try simp only [Act.put, List.setIfInBounds_toArray, List.set_cons_zero, List.set_cons_succ])
        (refine wpAnyH_take (i := 2) (oi := ?_) (v := ?_) ?_ (by kernel_rfl) (by kernel_rfl) (by kernel_rfl) ?_ (Or.inl ⟨?_, ?_⟩) (by assumption) ?_; rotate_left 2; (· (simp only [List.getElem?_toArray, List.getElem?_cons_succ, List.getElem?_cons_zero]; first | done | rfl)); (· exact (fun _ _ _ h => h)); (· rfl); (· (intro w hSw; (try dsimp only at hSw); go_simp; (try with_reducible rfl))))
        (try simp only [Act.put, List.setIfInBounds_toArray, List.set_cons_zero, List.set_cons_succ])
        (refine wpAnyH_take (i := 3) (oi := ?_) (v := ?_) ?_ (by kernel_rfl) (by kernel_rfl) (by kernel_rfl) ?_ (Or.inl ⟨?_, ?_⟩) (by assumption) ?_; rotate_left 2; (· (simp only [List.getElem?_toArray, List.getElem?_cons_succ, List.getElem?_cons_zero]; first | done | rfl)); (· exact (fun _ _ _ h => h)); (· rfl); (· (intro w hSw; (try dsimp only at hSw); go_simp; (try with_reducible rfl))))
        (try simp only [Act.put, List.setIfInBounds_toArray, List.set_cons_zero, List.set_cons_succ])
        (refine wpAnyH_take (i := 4) (oi := ?_) (v := ?_) ?_ (by kernel_rfl) (by kernel_rfl) (by kernel_rfl) ?_ (Or.inl ⟨?_, ?_⟩) (by assumption) ?_; rotate_left 2; (· (simp only [List.getElem?_toArray, List.getElem?_cons_succ, List.getElem?_cons_zero]; first | done | rfl)); (· exact (fun _ _ _ h => h)); (· rfl); (· (intro w hSw; (try dsimp only at hSw); go_simp; (try with_reducible rfl))))
        (try simp only [Act.put, List.setIfInBounds_toArray, List.set_cons_zero, List.set_cons_succ])
        (refine wpAnyH_take (i := 5) (oi := ?_) (v := ?_) ?_ (by kernel_rfl) (by kernel_rfl) (by kernel_rfl) ?_ (Or.inl ⟨?_, ?_⟩) (by assumption) ?_; rotate_left 2; (· (simp only [List.getElem?_toArray, List.getElem?_cons_succ, List.getElem?_cons_zero]; first | done | rfl)); (· exact (fun _ _ _ h => h)); (· rfl); (· (intro w hSw; (try dsimp only at hSw); go_simp; (try with_reducible rfl))))
        (try simp only [Act.put, List.setIfInBounds_toArray, List.set_cons_zero, List.set_cons_succ])
        (refine wpAnyH_take (i := 6) (oi := ?_) (v := ?_) ?_ (by kernel_rfl) (by kernel_rfl) (by kernel_rfl) ?_ (Or.inr ⟨?_, ?_⟩) (by assumption) ?_; rotate_left 2; (· (simp only [List.getElem?_toArray, List.getElem?_cons_succ, List.getElem?_cons_zero]; first | done | rfl)); (· exact (fun _ _ _ h => h)); (· rfl); (· rfl))
        (try simp only [Act.put, List.setIfInBounds_toArray, List.set_cons_zero, List.set_cons_succ])
        (refine wpAnyH_take (i := 8) (oi := ?_) (v := ?_) ?_ (by kernel_rfl) (by kernel_rfl) (by kernel_rfl) ?_ (Or.inr ⟨?_, ?_⟩) (by assumption) ?_; rotate_left 2; (· (simp only [List.getElem?_toArray, List.getElem?_cons_succ, List.getElem?_cons_zero]; first | done | rfl)); (· exact (fun _ _ _ h => h)); (· rfl); (· rfl))
        (try simp only [Act.put, List.setIfInBounds_toArray, List.set_cons_zero, List.set_cons_succ])
        (refine wpAnyH_take (i := 7) (oi := ?_) (v := ?_) ?_ (by kernel_rfl) (by kernel_rfl) (by kernel_rfl) ?_ (Or.inr ⟨?_, ?_⟩) (by assumption) ?_; rotate_left 2; (· (simp only [List.getElem?_toArray, List.getElem?_cons_succ, List.getElem?_cons_zero]; first | done | rfl)); (· exact (fun _ _ _ h => h)); (· rfl); (· rfl))
        (try simp only [Act.put, List.setIfInBounds_toArray, List.set_cons_zero, List.set_cons_succ])
        (refine wpAnyH_take (i := 9) (oi := ?_) (v := ?_) ?_ (by kernel_rfl) (by kernel_rfl) (by kernel_rfl) ?_ (Or.inr ⟨?_, ?_⟩) (by assumption) ?_; rotate_left 2; (· (simp only [List.getElem?_toArray, List.getElem?_cons_succ, List.getElem?_cons_zero]; first | done | rfl)); (· exact (fun _ _ _ h => h)); (· rfl); (· rfl))
        (try simp only [Act.put, List.setIfInBounds_toArray, List.set_cons_zero, List.set_cons_succ])
        (refine wpAnyH_take (i := 10) (oi := ?_) (v := ?_) ?_ (by kernel_rfl) (by kernel_rfl) (by kernel_rfl) ?_ (Or.inr ⟨?_, ?_⟩) (by assumption) ?_; rotate_left 2; (· (simp only [List.getElem?_toArray, List.getElem?_cons_succ, List.getElem?_cons_zero]; first | done | rfl)); (· exact (fun _ _ _ h => h)); (· rfl); (· rfl))
        (try simp only [Act.put, List.setIfInBounds_toArray, List.set_cons_zero, List.set_cons_succ])
        (refine wpAnyH_take (i := 11) (oi := ?_) (v := ?_) ?_ (by kernel_rfl) (by kernel_rfl) (by kernel_rfl) ?_ (Or.inl ⟨?_, ?_⟩) (by assumption) ?_; rotate_left 2; (· (simp only [List.getElem?_toArray, List.getElem?_cons_succ, List.getElem?_cons_zero]; first | done | rfl)); (· exact (fun _ _ _ h => h)); (· rfl); (· (intro w hSw; (try dsimp only at hSw); go_simp; (try with_reducible rfl))))
        (try simp only [Act.put, List.setIfInBounds_toArray, List.set_cons_zero, List.set_cons_succ])
        (refine wpAnyH_take (i := 12) (oi := ?_) (v := ?_) ?_ (by kernel_rfl) (by kernel_rfl) (by kernel_rfl) ?_ (Or.inl ⟨?_, ?_⟩) (by assumption) ?_; rotate_left 2; (· (simp only [List.getElem?_toArray, List.getElem?_cons_succ, List.getElem?_cons_zero]; first | done | rfl)); (· exact (fun _ _ _ h => h)); (· rfl); (· (intro w hSw; (try dsimp only at hSw); go_simp; (try with_reducible rfl))))
        (try simp only [Act.put, List.setIfInBounds_toArray, List.set_cons_zero, List.set_cons_succ])
        refine wpAnyH_done (by kernel_rfl) ?_ _
        go_wp2_with fail
        go_meet
        exact ⟨rfl, Lib.hid (s8_own (by assumption))⟩
      · obtain rfl : sb = (T1 == T2) := by rw [HKT.out, hk]; rfl
        clear HKT HSB
        refine wp_region_held_drew (S := (fun w' => w'.cell? ⟨w.heap.size, 0, none⟩ = some (.string ⟨s1.toArray⟩) ∧ w'.cell? ⟨w.heap.size, 1, none⟩ = some (.slice n1 N1.length cn1) ∧ w'.cell? ⟨pb, 0, none⟩ = some (.string ⟨s2.toArray⟩) ∧ w'.cell? ⟨pb, 1, none⟩ = some (.slice n2 N2.length cn2) ∧ w'.cell? ⟨px, 0, none⟩ = some (.int .i64 K1) ∧ w'.cell? ⟨py, 0, none⟩ = some (.int .i64 K2) ∧ Below W9.heap.size W9 w')) (by kernel_rfl) ?_ (fun hq0 => ?_)
        · ((try dsimp only); (first | exact s8_of HA9.out HB9.out HX9.out HY9.out (bdrewN (Below.refl _ _) 1) | assumption | exact s8_of HA9.out HB9.out HX9.out HY9.out (btrans (s8_own (by assumption)) (by assumption))))
        (refine wpAnyH_take (i := 0) (oi := ?_) (v := ?_) ?_ (by kernel_rfl) (by kernel_rfl) (by kernel_rfl) ?_ (Or.inl ⟨?_, ?_⟩) (by assumption) ?_; rotate_left 2; (· (simp only [List.getElem?_toArray, List.getElem?_cons_zero]; first | done | rfl)); (· exact (fun _ _ _ h => h)); (· rfl); (· (intro w hSw; (try dsimp only at hSw); go_simp; (try with_reducible rfl))))
        (try simp only [Act.put, List.setIfInBounds_toArray, List.set_cons_zero, List.set_cons_succ])
        (refine wpAnyH_take (i := 1) (oi := ?_) (v := ?_) ?_ (by kernel_rfl) (by kernel_rfl) (by kernel_rfl) ?_ (Or.inl ⟨?_, ?_⟩) (by assumption) ?_; rotate_left 2; (· (simp only [List.getElem?_toArray, List.getElem?_cons_succ, List.getElem?_cons_zero]; first | done | rfl)); (· exact (fun _ _ _ h => h)); (· rfl); (· (intro w hSw; (try dsimp only at hSw); go_simp; (try with_reducible rfl))))
        (try simp only [Act.put, List.setIfInBounds_toArray, List.set_cons_zero, List.set_cons_succ])
        (refine wpAnyH_take (i := 2) (oi := ?_) (v := ?_) ?_ (by kernel_rfl) (by kernel_rfl) (by kernel_rfl) ?_ (Or.inl ⟨?_, ?_⟩) (by assumption) ?_; rotate_left 2; (· (simp only [List.getElem?_toArray, List.getElem?_cons_succ, List.getElem?_cons_zero]; first | done | rfl)); (· exact (fun _ _ _ h => h)); (· rfl); (· (intro w hSw; (try dsimp only at hSw); go_simp; (try with_reducible rfl))))
        (try simp only [Act.put, List.setIfInBounds_toArray, List.set_cons_zero, List.set_cons_succ])
        (refine wpAnyH_take (i := 3) (oi := ?_) (v := ?_) ?_ (by kernel_rfl) (by kernel_rfl) (by kernel_rfl) ?_ (Or.inl ⟨?_, ?_⟩) (by assumption) ?_; rotate_left 2; (· (simp only [List.getElem?_toArray, List.getElem?_cons_succ, List.getElem?_cons_zero]; first | done | rfl)); (· exact (fun _ _ _ h => h)); (· rfl); (· (intro w hSw; (try dsimp only at hSw); go_simp; (try with_reducible rfl))))
        (try simp only [Act.put, List.setIfInBounds_toArray, List.set_cons_zero, List.set_cons_succ])
        (refine wpAnyH_take (i := 4) (oi := ?_) (v := ?_) ?_ (by kernel_rfl) (by kernel_rfl) (by kernel_rfl) ?_ (Or.inl ⟨?_, ?_⟩) (by assumption) ?_; rotate_left 2; (· (simp only [List.getElem?_toArray, List.getElem?_cons_succ, List.getElem?_cons_zero]; first | done | rfl)); (· exact (fun _ _ _ h => h)); (· rfl); (· (intro w hSw; (try dsimp only at hSw); go_simp; (try with_reducible rfl))))
        (try simp only [Act.put, List.setIfInBounds_toArray, List.set_cons_zero, List.set_cons_succ])
        (refine wpAnyH_take (i := 5) (oi := ?_) (v := ?_) ?_ (by kernel_rfl) (by kernel_rfl) (by kernel_rfl) ?_ (Or.inl ⟨?_, ?_⟩) (by assumption) ?_; rotate_left 2; (· (simp only [List.getElem?_toArray, List.getElem?_cons_succ, List.getElem?_cons_zero]; first | done | rfl)); (· exact (fun _ _ _ h => h)); (· rfl); (· (intro w hSw; (try dsimp only at hSw); go_simp; (try with_reducible rfl))))
        (try simp only [Act.put, List.setIfInBounds_toArray, List.set_cons_zero, List.set_cons_succ])
        (refine wpAnyH_take (i := 6) (oi := ?_) (v := ?_) ?_ (by kernel_rfl) (by kernel_rfl) (by kernel_rfl) ?_ (Or.inl ⟨?_, ?_⟩) (by assumption) ?_; rotate_left 2; (· (simp only [List.getElem?_toArray, List.getElem?_cons_succ, List.getElem?_cons_zero]; first | done | rfl)); (· exact (fun _ _ _ h => h)); (· rfl); (· (intro w hSw; (try dsimp only at hSw); go_simp; (try with_reducible rfl))))
        (try simp only [Act.put, List.setIfInBounds_toArray, List.set_cons_zero, List.set_cons_succ])
        (refine wpAnyH_take (i := 8) (oi := ?_) (v := ?_) ?_ (by kernel_rfl) (by kernel_rfl) (by kernel_rfl) ?_ (Or.inl ⟨?_, ?_⟩) (by assumption) ?_; rotate_left 2; (· (simp only [List.getElem?_toArray, List.getElem?_cons_succ, List.getElem?_cons_zero]; first | done | rfl)); (· exact (fun _ _ _ h => h)); (· rfl); (· (intro w hSw; (try dsimp only at hSw); go_simp; (try with_reducible rfl))))
        (try simp only [Act.put, List.setIfInBounds_toArray, List.set_cons_zero, List.set_cons_succ])
        refine wpAnyH_ready (rs := [7]) (by kernel_rfl) (by simp) ?_
        refine AllReadyH.cons (o := ?_) ?_ (fun K hK => ?_) AllReadyH.nil
        rotate_left 1
        · (simp only [List.getElem?_toArray, List.getElem?_cons_succ, List.getElem?_cons_zero]; first | done | rfl)
        go_simp
        first | (refine hK.out _ _ ?_ (fun hq1 => ?_)) | ((first | (go_at_call 8; (with_reducible refine (HP1.out _ (s8_own (by assumption))).mono ?_); rintro e w8 ⟨rfl, hb8⟩) | (go_at_call 8; (with_reducible refine (HP2.out _ (s8_own (by assumption))).mono ?_); rintro e w8 ⟨rfl, hb8⟩)); refine hK.out _ _ ?_ (fun hq1 => ?_)) | ((first | (go_at_call 8; (with_reducible refine (HP1.out _ (s8_own (by assumption))).mono ?_); rintro e w8 ⟨rfl, hb8⟩) | (go_at_call 8; (with_reducible refine (HP2.out _ (s8_own (by assumption))).mono ?_); rintro e w8 ⟨rfl, hb8⟩)); go_wp2_with fail; refine hK.out _ _ ?_ (fun hq1 => ?_)) | fail
        · ((try dsimp only); (first | exact s8_of HA9.out HB9.out HX9.out HY9.out (bdrewN (Below.refl _ _) 1) | assumption | exact s8_of HA9.out HB9.out HX9.out HY9.out (btrans (s8_own (by assumption)) (by assumption))))
        clear hK K
        (try simp only [Act.put, List.setIfInBounds_toArray, List.set_cons_zero, List.set_cons_succ])
        clear hq0
        refine wpAnyH_ready (rs := [9]) (by kernel_rfl) (by simp) ?_
        refine AllReadyH.cons (o := ?_) ?_ (fun K hK => ?_) AllReadyH.nil
        rotate_left 1
        · (simp only [List.getElem?_toArray, List.getElem?_cons_succ, List.getElem?_cons_zero]; first | done | rfl)
        go_simp
        first | (refine hK.out _ _ ?_ (fun hq2 => ?_)) | ((first | (go_at_call 8; (with_reducible refine (HP1.out _ (s8_own (by assumption))).mono ?_); rintro e w8 ⟨rfl, hb8⟩) | (go_at_call 8; (with_reducible refine (HP2.out _ (s8_own (by assumption))).mono ?_); rintro e w8 ⟨rfl, hb8⟩)); refine hK.out _ _ ?_ (fun hq2 => ?_)) | ((first | (go_at_call 8; (with_reducible refine (HP1.out _ (s8_own (by assumption))).mono ?_); rintro e w8 ⟨rfl, hb8⟩) | (go_at_call 8; (with_reducible refine (HP2.out _ (s8_own (by assumption))).mono ?_); rintro e w8 ⟨rfl, hb8⟩)); go_wp2_with fail; refine hK.out _ _ ?_ (fun hq2 => ?_)) | fail
        · ((try dsimp only); (first | exact s8_of HA9.out HB9.out HX9.out HY9.out (bdrewN (Below.refl _ _) 1) | assumption | exact s8_of HA9.out HB9.out HX9.out HY9.out (btrans (s8_own (by assumption)) (by assumption))))
        clear hK K
        (try simp only [Act.put, List.setIfInBounds_toArray, List.set_cons_zero, List.set_cons_succ])
        clear hq1
        (refine wpAnyH_take (i := 10) (oi := ?_) (v := ?_) ?_ (by kernel_rfl) (by kernel_rfl) (by kernel_rfl) ?_ (Or.inl ⟨?_, ?_⟩) (by assumption) ?_; rotate_left 2; (· (simp only [List.getElem?_toArray, List.getElem?_cons_succ, List.getElem?_cons_zero]; first | done | rfl)); (· exact (fun _ _ _ h => h)); (· rfl); (· (intro w hSw; (try dsimp only at hSw); go_simp; (try with_reducible rfl))))
        (try simp only [Act.put, List.setIfInBounds_toArray, List.set_cons_zero, List.set_cons_succ])
        (refine wpAnyH_take (i := 11) (oi := ?_) (v := ?_) ?_ (by kernel_rfl) (by kernel_rfl) (by kernel_rfl) ?_ (Or.inl ⟨?_, ?_⟩) (by assumption) ?_; rotate_left 2; (· (simp only [List.getElem?_toArray, List.getElem?_cons_succ, List.getElem?_cons_zero]; first | done | rfl)); (· exact (fun _ _ _ h => h)); (· rfl); (· (intro w hSw; (try dsimp only at hSw); go_simp; (try with_reducible rfl))))
        (try simp only [Act.put, List.setIfInBounds_toArray, List.set_cons_zero, List.set_cons_succ])
        (refine wpAnyH_take (i := 12) (oi := ?_) (v := ?_) ?_ (by kernel_rfl) (by kernel_rfl) (by kernel_rfl) ?_ (Or.inl ⟨?_, ?_⟩) (by assumption) ?_; rotate_left 2; (· (simp only [List.getElem?_toArray, List.getElem?_cons_succ, List.getElem?_cons_zero]; first | done | rfl)); (· exact (fun _ _ _ h => h)); (· rfl); (· (intro w hSw; (try dsimp only at hSw); go_simp; (try with_reducible rfl))))
        (try simp only [Act.put, List.setIfInBounds_toArray, List.set_cons_zero, List.set_cons_succ])
        refine wpAnyH_done (by kernel_rfl) ?_ _
        go_wp2_with fail
        go_meet
        exact ⟨rfl, Lib.hid (s8_own (by assumption))⟩
    case rest => as_aux_lemma =>
      obtain ⟨rfl, HBC⟩ := hcut
      have HXC := Lib.hid (HX9.out.below HBC.out); have HYC := Lib.hid (HY9.out.below HBC.out)
      have hmg1 := fun (W : World) (hW : Below wc.heap.size wc W) => HMG1.out W (btrans HBC.out hW)
      have hmg2 := fun (W : World) (hW : Below wc.heap.size wc W) => HMG2.out W (btrans HBC.out hW)
      have HMC1 := Lib.hid hmg1; have HMC2 := Lib.hid hmg2
      have HBW := Lib.hid (btrans HBF.out HBC.out)
      have hsb := HSB.out
      clear hmg1 hmg2 HX9 HY9 HA9 HB9 HP1 HP2 HMG1 HMG2 HBF HBC HKT
      go_upto_region 9 with fail
      refine wp_region_held_drew (S := (fun w' => w'.cell? ⟨px, 0, none⟩ = some (.int .i64 K1) ∧ w'.cell? ⟨px, 1, none⟩ = some (.int .i64 0) ∧ w'.cell? ⟨px, 2, none⟩ = some (.int .i64 0) ∧ w'.cell? ⟨px, 3, none⟩ = some (.int .i64 0) ∧ w'.cell? ⟨px, 4, none⟩ = some (.string ⟨#[]⟩) ∧ w'.cell? ⟨px, 5, none⟩ = some (.int .i64 0) ∧ w'.cell? ⟨px, 6, none⟩ = some (.string ⟨#[]⟩) ∧ w'.cell? ⟨px, 7, none⟩ = some (.slice none 0 0) ∧ w'.cell? ⟨px, 8, none⟩ = some (.string ⟨#[]⟩) ∧ w'.cell? ⟨px, 9, none⟩ = some (.int .i64 0) ∧ w'.cell? ⟨px, 10, none⟩ = some (.string ⟨s1.toArray⟩) ∧ w'.cell? ⟨px, 11, none⟩ = some (.slice n1 N1.length cn1) ∧ w'.cell? ⟨px, 12, none⟩ = some (.string ⟨#[]⟩) ∧ w'.cell? ⟨px, 13, none⟩ = some (.slice none 0 0) ∧ w'.cell? ⟨px, 14, none⟩ = some (.int .i64 0) ∧ w'.cell? ⟨px, 15, none⟩ = some (.string ⟨#[]⟩) ∧ w'.cell? ⟨px, 16, none⟩ = some (.int .i64 0) ∧ w'.cell? ⟨py, 0, none⟩ = some (.int .i64 K2) ∧ w'.cell? ⟨py, 1, none⟩ = some (.int .i64 0) ∧ w'.cell? ⟨py, 2, none⟩ = some (.int .i64 0) ∧ w'.cell? ⟨py, 3, none⟩ = some (.int .i64 0) ∧ w'.cell? ⟨py, 4, none⟩ = some (.string ⟨#[]⟩) ∧ w'.cell? ⟨py, 5, none⟩ = some (.int .i64 0) ∧ w'.cell? ⟨py, 6, none⟩ = some (.string ⟨#[]⟩) ∧ w'.cell? ⟨py, 7, none⟩ = some (.slice none 0 0) ∧ w'.cell? ⟨py, 8, none⟩ = some (.string ⟨#[]⟩) ∧ w'.cell? ⟨py, 9, none⟩ = some (.int .i64 0) ∧ w'.cell? ⟨py, 10, none⟩ = some (.string ⟨s2.toArray⟩) ∧ w'.cell? ⟨py, 11, none⟩ = some (.slice n2 N2.length cn2) ∧ w'.cell? ⟨py, 12, none⟩ = some (.string ⟨#[]⟩) ∧ w'.cell? ⟨py, 13, none⟩ = some (.slice none 0 0) ∧ w'.cell? ⟨py, 14, none⟩ = some (.int .i64 0) ∧ w'.cell? ⟨py, 15, none⟩ = some (.string ⟨#[]⟩) ∧ w'.cell? ⟨py, 16, none⟩ = some (.int .i64 0) ∧ Below wc.heap.size wc w')) (by kernel_rfl) ?_ (fun hq0 => ?_)
      · ((try dsimp only); (first | exact s9_of HXC.out HYC.out (bdrewN (Below.refl _ _) 1) | assumption | exact s9_of HXC.out HYC.out (btrans (s9_own (by assumption)) (by assumption))))
      (refine wpAnyH_take (i := 0) (oi := ?_) (v := ?_) ?_ (by kernel_rfl) (by kernel_rfl) (by kernel_rfl) ?_ (Or.inl ⟨?_, ?_⟩) (by assumption) ?_; rotate_left 2; (· (simp only [List.getElem?_toArray, List.getElem?_cons_zero]; first | done | rfl)); (· exact (fun _ _ _ h => h)); (· rfl); (· (intro w hSw; (try dsimp only at hSw); go_simp; (try with_reducible rfl))))
      (try simp only [Act.put, List.setIfInBounds_toArray, List.set_cons_zero, List.set_cons_succ])
      (refine wpAnyH_take (i := 3) (oi := ?_) (v := ?_) ?_ (by kernel_rfl) (by kernel_rfl) (by kernel_rfl) ?_ (Or.inl ⟨?_, ?_⟩) (by assumption) ?_; rotate_left 2; (· (simp only [List.getElem?_toArray, List.getElem?_cons_succ, List.getElem?_cons_zero]; first | done | rfl)); (· exact (fun _ _ _ h => h)); (· rfl); (· (intro w hSw; (try dsimp only at hSw); go_simp; (try with_reducible rfl))))
      (try simp only [Act.put, List.setIfInBounds_toArray, List.set_cons_zero, List.set_cons_succ])
      (refine wpAnyH_take (i := 7) (oi := ?_) (v := ?_) ?_ (by kernel_rfl) (by kernel_rfl) (by kernel_rfl) ?_ (Or.inl ⟨?_, ?_⟩) (by assumption) ?_; rotate_left 2; (· (simp only [List.getElem?_toArray, List.getElem?_cons_succ, List.getElem?_cons_zero]; first | done | rfl)); (· exact (fun _ _ _ h => h)); (· rfl); (· (intro w hSw; (try dsimp only at hSw); go_simp; (try with_reducible rfl))))
      (try simp only [Act.put, List.setIfInBounds_toArray, List.set_cons_zero, List.set_cons_succ])
      refine wpAnyH_ready (rs := [1]) (by kernel_rfl) (by simp) ?_
      refine AllReadyH.cons (o := ?_) ?_ (fun K hK => ?_) AllReadyH.nil
      rotate_left 1
      · (simp only [List.getElem?_toArray, List.getElem?_cons_succ, List.getElem?_cons_zero]; first | done | rfl)
      go_simp
      first | (refine hK.out _ _ ?_ (fun hq1 => ?_)) | ((first | (go_at_call 9; (with_reducible refine (HMC1.out _ (s9_own (by assumption))).mono ?_); rintro e w9 ⟨⟨a9, c9, rfl, h91, h92, h93⟩, hb9⟩; have hcv9 := conv_lays (cap := c9) h93 HNE1.out) | (go_at_call 9; (with_reducible refine (HMC2.out _ (s9_own (by assumption))).mono ?_); rintro e w10 ⟨⟨a10, c10, rfl, h101, h102, h103⟩, hb10⟩; have hcv10 := conv_lays (cap := c10) h103 HNE2.out; have hcv9 := conv_lays (cap := c9) (h93.below hb10) HNE1.out)); refine hK.out _ _ ?_ (fun hq1 => ?_)) | ((first | (go_at_call 9; (with_reducible refine (HMC1.out _ (s9_own (by assumption))).mono ?_); rintro e w9 ⟨⟨a9, c9, rfl, h91, h92, h93⟩, hb9⟩; have hcv9 := conv_lays (cap := c9) h93 HNE1.out) | (go_at_call 9; (with_reducible refine (HMC2.out _ (s9_own (by assumption))).mono ?_); rintro e w10 ⟨⟨a10, c10, rfl, h101, h102, h103⟩, hb10⟩; have hcv10 := conv_lays (cap := c10) h103 HNE2.out; have hcv9 := conv_lays (cap := c9) (h93.below hb10) HNE1.out)); go_wp2_with fail; refine hK.out _ _ ?_ (fun hq1 => ?_)) | fail
      · ((try dsimp only); (first | exact s9_of HXC.out HYC.out (bdrewN (Below.refl _ _) 1) | assumption | exact s9_of HXC.out HYC.out (btrans (s9_own (by assumption)) (by assumption))))
      clear hK K
      (try simp only [Act.put, List.setIfInBounds_toArray, List.set_cons_zero, List.set_cons_succ])
      clear hq0
      refine wpAnyH_ready (rs := [2, 4]) (by kernel_rfl) (by simp) ?_
      refine AllReadyH.cons (o := ?_) ?_ (fun K hK => ?_) ?_
      rotate_left 1
      · (simp only [List.getElem?_toArray, List.getElem?_cons_succ, List.getElem?_cons_zero]; first | done | rfl)
      rotate_left 1
      refine AllReadyH.cons (o := ?_) ?_ (fun K hK => ?_) AllReadyH.nil
      rotate_left 1
      · (simp only [List.getElem?_toArray, List.getElem?_cons_succ, List.getElem?_cons_zero]; first | done | rfl)
      rotate_left 1
      · skip
        go_simp
        first | (refine hK.out _ _ ?_ (fun hq2 => ?_)) | ((first | (go_at_call 9; (with_reducible refine (HMC1.out _ (s9_own (by assumption))).mono ?_); rintro e w9 ⟨⟨a9, c9, rfl, h91, h92, h93⟩, hb9⟩; have hcv9 := conv_lays (cap := c9) h93 HNE1.out) | (go_at_call 9; (with_reducible refine (HMC2.out _ (s9_own (by assumption))).mono ?_); rintro e w10 ⟨⟨a10, c10, rfl, h101, h102, h103⟩, hb10⟩; have hcv10 := conv_lays (cap := c10) h103 HNE2.out; have hcv9 := conv_lays (cap := c9) (h93.below hb10) HNE1.out)); refine hK.out _ _ ?_ (fun hq2 => ?_)) | ((first | (go_at_call 9; (with_reducible refine (HMC1.out _ (s9_own (by assumption))).mono ?_); rintro e w9 ⟨⟨a9, c9, rfl, h91, h92, h93⟩, hb9⟩; have hcv9 := conv_lays (cap := c9) h93 HNE1.out) | (go_at_call 9; (with_reducible refine (HMC2.out _ (s9_own (by assumption))).mono ?_); rintro e w10 ⟨⟨a10, c10, rfl, h101, h102, h103⟩, hb10⟩; have hcv10 := conv_lays (cap := c10) h103 HNE2.out; have hcv9 := conv_lays (cap := c9) (h93.below hb10) HNE1.out)); go_wp2_with fail; refine hK.out _ _ ?_ (fun hq2 => ?_)) | fail
        · ((try dsimp only); (first | exact s9_of HXC.out HYC.out (bdrewN (Below.refl _ _) 1) | assumption | exact s9_of HXC.out HYC.out (btrans (s9_own (by assumption)) (by assumption))))
        clear hK K
        (try simp only [Act.put, List.setIfInBounds_toArray, List.set_cons_zero, List.set_cons_succ])
        clear hq1
        refine wpAnyH_ready (rs := [4]) (by kernel_rfl) (by simp) ?_
        refine AllReadyH.cons (o := ?_) ?_ (fun K hK => ?_) AllReadyH.nil
        rotate_left 1
        · (simp only [List.getElem?_toArray, List.getElem?_cons_succ, List.getElem?_cons_zero]; first | done | rfl)
        go_simp
        first | (refine hK.out _ _ ?_ (fun hq3 => ?_)) | ((first | (go_at_call 9; (with_reducible refine (HMC1.out _ (s9_own (by assumption))).mono ?_); rintro e w9 ⟨⟨a9, c9, rfl, h91, h92, h93⟩, hb9⟩; have hcv9 := conv_lays (cap := c9) h93 HNE1.out) | (go_at_call 9; (with_reducible refine (HMC2.out _ (s9_own (by assumption))).mono ?_); rintro e w10 ⟨⟨a10, c10, rfl, h101, h102, h103⟩, hb10⟩; have hcv10 := conv_lays (cap := c10) h103 HNE2.out; have hcv9 := conv_lays (cap := c9) (h93.below hb10) HNE1.out)); refine hK.out _ _ ?_ (fun hq3 => ?_)) | ((first | (go_at_call 9; (with_reducible refine (HMC1.out _ (s9_own (by assumption))).mono ?_); rintro e w9 ⟨⟨a9, c9, rfl, h91, h92, h93⟩, hb9⟩; have hcv9 := conv_lays (cap := c9) h93 HNE1.out) | (go_at_call 9; (with_reducible refine (HMC2.out _ (s9_own (by assumption))).mono ?_); rintro e w10 ⟨⟨a10, c10, rfl, h101, h102, h103⟩, hb10⟩; have hcv10 := conv_lays (cap := c10) h103 HNE2.out; have hcv9 := conv_lays (cap := c9) (h93.below hb10) HNE1.out)); go_wp2_with fail; refine hK.out _ _ ?_ (fun hq3 => ?_)) | fail
        · ((try dsimp only); (first | exact s9_of HXC.out HYC.out (bdrewN (Below.refl _ _) 1) | assumption | exact s9_of HXC.out HYC.out (btrans (s9_own (by assumption)) (by assumption))))
        clear hK K
        (try simp only [Act.put, List.setIfInBounds_toArray, List.set_cons_zero, List.set_cons_succ])
        clear hq2
        refine wpAnyH_ready (rs := [5]) (by kernel_rfl) (by simp) ?_
        refine AllReadyH.cons (o := ?_) ?_ (fun K hK => ?_) AllReadyH.nil
        rotate_left 1
        · (simp only [List.getElem?_toArray, List.getElem?_cons_succ, List.getElem?_cons_zero]; first | done | rfl)
        go_simp
        first | (refine hK.out _ _ ?_ (fun hq4 => ?_)) | ((first | (go_at_call 9; (with_reducible refine (HMC1.out _ (s9_own (by assumption))).mono ?_); rintro e w9 ⟨⟨a9, c9, rfl, h91, h92, h93⟩, hb9⟩; have hcv9 := conv_lays (cap := c9) h93 HNE1.out) | (go_at_call 9; (with_reducible refine (HMC2.out _ (s9_own (by assumption))).mono ?_); rintro e w10 ⟨⟨a10, c10, rfl, h101, h102, h103⟩, hb10⟩; have hcv10 := conv_lays (cap := c10) h103 HNE2.out; have hcv9 := conv_lays (cap := c9) (h93.below hb10) HNE1.out)); refine hK.out _ _ ?_ (fun hq4 => ?_)) | ((first | (go_at_call 9; (with_reducible refine (HMC1.out _ (s9_own (by assumption))).mono ?_); rintro e w9 ⟨⟨a9, c9, rfl, h91, h92, h93⟩, hb9⟩; have hcv9 := conv_lays (cap := c9) h93 HNE1.out) | (go_at_call 9; (with_reducible refine (HMC2.out _ (s9_own (by assumption))).mono ?_); rintro e w10 ⟨⟨a10, c10, rfl, h101, h102, h103⟩, hb10⟩; have hcv10 := conv_lays (cap := c10) h103 HNE2.out; have hcv9 := conv_lays (cap := c9) (h93.below hb10) HNE1.out)); go_wp2_with fail; refine hK.out _ _ ?_ (fun hq4 => ?_)) | fail
        · ((try dsimp only); (first | exact s9_of HXC.out HYC.out (bdrewN (Below.refl _ _) 1) | assumption | exact s9_of HXC.out HYC.out (btrans (s9_own (by assumption)) (by assumption))))
        clear hK K
        (try simp only [Act.put, List.setIfInBounds_toArray, List.set_cons_zero, List.set_cons_succ])
        clear hq3
        refine wpAnyH_ready (rs := [6]) (by kernel_rfl) (by simp) ?_
        refine AllReadyH.cons (o := ?_) ?_ (fun K hK => ?_) AllReadyH.nil
        rotate_left 1
        · (simp only [List.getElem?_toArray, List.getElem?_cons_succ, List.getElem?_cons_zero]; first | done | rfl)
        go_simp
        first | (refine hK.out _ _ ?_ (fun hq5 => ?_)) | ((first | (go_at_call 9; (with_reducible refine (HMC1.out _ (s9_own (by assumption))).mono ?_); rintro e w9 ⟨⟨a9, c9, rfl, h91, h92, h93⟩, hb9⟩; have hcv9 := conv_lays (cap := c9) h93 HNE1.out) | (go_at_call 9; (with_reducible refine (HMC2.out _ (s9_own (by assumption))).mono ?_); rintro e w10 ⟨⟨a10, c10, rfl, h101, h102, h103⟩, hb10⟩; have hcv10 := conv_lays (cap := c10) h103 HNE2.out; have hcv9 := conv_lays (cap := c9) (h93.below hb10) HNE1.out)); refine hK.out _ _ ?_ (fun hq5 => ?_)) | ((first | (go_at_call 9; (with_reducible refine (HMC1.out _ (s9_own (by assumption))).mono ?_); rintro e w9 ⟨⟨a9, c9, rfl, h91, h92, h93⟩, hb9⟩; have hcv9 := conv_lays (cap := c9) h93 HNE1.out) | (go_at_call 9; (with_reducible refine (HMC2.out _ (s9_own (by assumption))).mono ?_); rintro e w10 ⟨⟨a10, c10, rfl, h101, h102, h103⟩, hb10⟩; have hcv10 := conv_lays (cap := c10) h103 HNE2.out; have hcv9 := conv_lays (cap := c9) (h93.below hb10) HNE1.out)); go_wp2_with fail; refine hK.out _ _ ?_ (fun hq5 => ?_)) | fail
        · ((try dsimp only); (first | exact s9_of HXC.out HYC.out (bdrewN (Below.refl _ _) 1) | assumption | exact s9_of HXC.out HYC.out (btrans (s9_own (by assumption)) (by assumption))))
        clear hK K
        (try simp only [Act.put, List.setIfInBounds_toArray, List.set_cons_zero, List.set_cons_succ])
        clear hq4
        refine wpAnyH_ready (rs := [8]) (by kernel_rfl) (by simp) ?_
        refine AllReadyH.cons (o := ?_) ?_ (fun K hK => ?_) AllReadyH.nil
        rotate_left 1
        · (simp only [List.getElem?_toArray, List.getElem?_cons_succ, List.getElem?_cons_zero]; first | done | rfl)
        go_simp
        first | (refine hK.out _ _ ?_ (fun hq6 => ?_)) | ((first | (go_at_call 9; (with_reducible refine (HMC1.out _ (s9_own (by assumption))).mono ?_); rintro e w9 ⟨⟨a9, c9, rfl, h91, h92, h93⟩, hb9⟩; have hcv9 := conv_lays (cap := c9) h93 HNE1.out) | (go_at_call 9; (with_reducible refine (HMC2.out _ (s9_own (by assumption))).mono ?_); rintro e w10 ⟨⟨a10, c10, rfl, h101, h102, h103⟩, hb10⟩; have hcv10 := conv_lays (cap := c10) h103 HNE2.out; have hcv9 := conv_lays (cap := c9) (h93.below hb10) HNE1.out)); refine hK.out _ _ ?_ (fun hq6 => ?_)) | ((first | (go_at_call 9; (with_reducible refine (HMC1.out _ (s9_own (by assumption))).mono ?_); rintro e w9 ⟨⟨a9, c9, rfl, h91, h92, h93⟩, hb9⟩; have hcv9 := conv_lays (cap := c9) h93 HNE1.out) | (go_at_call 9; (with_reducible refine (HMC2.out _ (s9_own (by assumption))).mono ?_); rintro e w10 ⟨⟨a10, c10, rfl, h101, h102, h103⟩, hb10⟩; have hcv10 := conv_lays (cap := c10) h103 HNE2.out; have hcv9 := conv_lays (cap := c9) (h93.below hb10) HNE1.out)); go_wp2_with fail; refine hK.out _ _ ?_ (fun hq6 => ?_)) | fail
        · ((try dsimp only); (first | exact s9_of HXC.out HYC.out (bdrewN (Below.refl _ _) 1) | assumption | exact s9_of HXC.out HYC.out (btrans (s9_own (by assumption)) (by assumption))))
        clear hK K
        (try simp only [Act.put, List.setIfInBounds_toArray, List.set_cons_zero, List.set_cons_succ])
        clear hq5
        refine wpAnyH_ready (rs := [9]) (by kernel_rfl) (by simp) ?_
        refine AllReadyH.cons (o := ?_) ?_ (fun K hK => ?_) AllReadyH.nil
        rotate_left 1
        · (simp only [List.getElem?_toArray, List.getElem?_cons_succ, List.getElem?_cons_zero]; first | done | rfl)
        go_simp
        first | (refine hK.out _ _ ?_ (fun hq7 => ?_)) | ((first | (go_at_call 9; (with_reducible refine (HMC1.out _ (s9_own (by assumption))).mono ?_); rintro e w9 ⟨⟨a9, c9, rfl, h91, h92, h93⟩, hb9⟩; have hcv9 := conv_lays (cap := c9) h93 HNE1.out) | (go_at_call 9; (with_reducible refine (HMC2.out _ (s9_own (by assumption))).mono ?_); rintro e w10 ⟨⟨a10, c10, rfl, h101, h102, h103⟩, hb10⟩; have hcv10 := conv_lays (cap := c10) h103 HNE2.out; have hcv9 := conv_lays (cap := c9) (h93.below hb10) HNE1.out)); refine hK.out _ _ ?_ (fun hq7 => ?_)) | ((first | (go_at_call 9; (with_reducible refine (HMC1.out _ (s9_own (by assumption))).mono ?_); rintro e w9 ⟨⟨a9, c9, rfl, h91, h92, h93⟩, hb9⟩; have hcv9 := conv_lays (cap := c9) h93 HNE1.out) | (go_at_call 9; (with_reducible refine (HMC2.out _ (s9_own (by assumption))).mono ?_); rintro e w10 ⟨⟨a10, c10, rfl, h101, h102, h103⟩, hb10⟩; have hcv10 := conv_lays (cap := c10) h103 HNE2.out; have hcv9 := conv_lays (cap := c9) (h93.below hb10) HNE1.out)); go_wp2_with fail; refine hK.out _ _ ?_ (fun hq7 => ?_)) | fail
        · ((try dsimp only); (first | exact s9_of HXC.out HYC.out (bdrewN (Below.refl _ _) 1) | assumption | exact s9_of HXC.out HYC.out (btrans (s9_own (by assumption)) (by assumption))))
        clear hK K
        (try simp only [Act.put, List.setIfInBounds_toArray, List.set_cons_zero, List.set_cons_succ])
        clear hq6
        refine wpAnyH_done (by kernel_rfl) ?_ _
        (go_wp2_with fail; go_ret; exact ⟨rfl, btrans HBW.out (s9_own (by assumption))⟩)
      · skip
        go_simp
        first | (refine hK.out _ _ ?_ (fun hq2 => ?_)) | ((first | (go_at_call 9; (with_reducible refine (HMC1.out _ (s9_own (by assumption))).mono ?_); rintro e w9 ⟨⟨a9, c9, rfl, h91, h92, h93⟩, hb9⟩; have hcv9 := conv_lays (cap := c9) h93 HNE1.out) | (go_at_call 9; (with_reducible refine (HMC2.out _ (s9_own (by assumption))).mono ?_); rintro e w10 ⟨⟨a10, c10, rfl, h101, h102, h103⟩, hb10⟩; have hcv10 := conv_lays (cap := c10) h103 HNE2.out; have hcv9 := conv_lays (cap := c9) (h93.below hb10) HNE1.out)); refine hK.out _ _ ?_ (fun hq2 => ?_)) | ((first | (go_at_call 9; (with_reducible refine (HMC1.out _ (s9_own (by assumption))).mono ?_); rintro e w9 ⟨⟨a9, c9, rfl, h91, h92, h93⟩, hb9⟩; have hcv9 := conv_lays (cap := c9) h93 HNE1.out) | (go_at_call 9; (with_reducible refine (HMC2.out _ (s9_own (by assumption))).mono ?_); rintro e w10 ⟨⟨a10, c10, rfl, h101, h102, h103⟩, hb10⟩; have hcv10 := conv_lays (cap := c10) h103 HNE2.out; have hcv9 := conv_lays (cap := c9) (h93.below hb10) HNE1.out)); go_wp2_with fail; refine hK.out _ _ ?_ (fun hq2 => ?_)) | fail
        · ((try dsimp only); (first | exact s9_of HXC.out HYC.out (bdrewN (Below.refl _ _) 1) | assumption | exact s9_of HXC.out HYC.out (btrans (s9_own (by assumption)) (by assumption))))
        clear hK K
        (try simp only [Act.put, List.setIfInBounds_toArray, List.set_cons_zero, List.set_cons_succ])
        clear hq1
        refine wpAnyH_ready (rs := [2, 5]) (by kernel_rfl) (by simp) ?_
        refine AllReadyH.cons (o := ?_) ?_ (fun K hK => ?_) ?_
        rotate_left 1
        · (simp only [List.getElem?_toArray, List.getElem?_cons_succ, List.getElem?_cons_zero]; first | done | rfl)
        rotate_left 1
        refine AllReadyH.cons (o := ?_) ?_ (fun K hK => ?_) AllReadyH.nil
        rotate_left 1
        · (simp only [List.getElem?_toArray, List.getElem?_cons_succ, List.getElem?_cons_zero]; first | done | rfl)
        rotate_left 1
        · skip
          go_simp
          first | (refine hK.out _ _ ?_ (fun hq3 => ?_)) | ((first | (go_at_call 9; (with_reducible refine (HMC1.out _ (s9_own (by assumption))).mono ?_); rintro e w9 ⟨⟨a9, c9, rfl, h91, h92, h93⟩, hb9⟩; have hcv9 := conv_lays (cap := c9) h93 HNE1.out) | (go_at_call 9; (with_reducible refine (HMC2.out _ (s9_own (by assumption))).mono ?_); rintro e w10 ⟨⟨a10, c10, rfl, h101, h102, h103⟩, hb10⟩; have hcv10 := conv_lays (cap := c10) h103 HNE2.out; have hcv9 := conv_lays (cap := c9) (h93.below hb10) HNE1.out)); refine hK.out _ _ ?_ (fun hq3 => ?_)) | ((first | (go_at_call 9; (with_reducible refine (HMC1.out _ (s9_own (by assumption))).mono ?_); rintro e w9 ⟨⟨a9, c9, rfl, h91, h92, h93⟩, hb9⟩; have hcv9 := conv_lays (cap := c9) h93 HNE1.out) | (go_at_call 9; (with_reducible refine (HMC2.out _ (s9_own (by assumption))).mono ?_); rintro e w10 ⟨⟨a10, c10, rfl, h101, h102, h103⟩, hb10⟩; have hcv10 := conv_lays (cap := c10) h103 HNE2.out; have hcv9 := conv_lays (cap := c9) (h93.below hb10) HNE1.out)); go_wp2_with fail; refine hK.out _ _ ?_ (fun hq3 => ?_)) | fail
          · ((try dsimp only); (first | exact s9_of HXC.out HYC.out (bdrewN (Below.refl _ _) 1) | assumption | exact s9_of HXC.out HYC.out (btrans (s9_own (by assumption)) (by assumption))))
          clear hK K
          (try simp only [Act.put, List.setIfInBounds_toArray, List.set_cons_zero, List.set_cons_succ])
          clear hq2
          refine wpAnyH_ready (rs := [5]) (by kernel_rfl) (by simp) ?_
          refine AllReadyH.cons (o := ?_) ?_ (fun K hK => ?_) AllReadyH.nil
          rotate_left 1
          · (simp only [List.getElem?_toArray, List.getElem?_cons_succ, List.getElem?_cons_zero]; first | done | rfl)
          go_simp
          first | (refine hK.out _ _ ?_ (fun hq4 => ?_)) | ((first | (go_at_call 9; (with_reducible refine (HMC1.out _ (s9_own (by assumption))).mono ?_); rintro e w9 ⟨⟨a9, c9, rfl, h91, h92, h93⟩, hb9⟩; have hcv9 := conv_lays (cap := c9) h93 HNE1.out) | (go_at_call 9; (with_reducible refine (HMC2.out _ (s9_own (by assumption))).mono ?_); rintro e w10 ⟨⟨a10, c10, rfl, h101, h102, h103⟩, hb10⟩; have hcv10 := conv_lays (cap := c10) h103 HNE2.out; have hcv9 := conv_lays (cap := c9) (h93.below hb10) HNE1.out)); refine hK.out _ _ ?_ (fun hq4 => ?_)) | ((first | (go_at_call 9; (with_reducible refine (HMC1.out _ (s9_own (by assumption))).mono ?_); rintro e w9 ⟨⟨a9, c9, rfl, h91, h92, h93⟩, hb9⟩; have hcv9 := conv_lays (cap := c9) h93 HNE1.out) | (go_at_call 9; (with_reducible refine (HMC2.out _ (s9_own (by assumption))).mono ?_); rintro e w10 ⟨⟨a10, c10, rfl, h101, h102, h103⟩, hb10⟩; have hcv10 := conv_lays (cap := c10) h103 HNE2.out; have hcv9 := conv_lays (cap := c9) (h93.below hb10) HNE1.out)); go_wp2_with fail; refine hK.out _ _ ?_ (fun hq4 => ?_)) | fail
          · ((try dsimp only); (first | exact s9_of HXC.out HYC.out (bdrewN (Below.refl _ _) 1) | assumption | exact s9_of HXC.out HYC.out (btrans (s9_own (by assumption)) (by assumption))))
          clear hK K
          (try simp only [Act.put, List.setIfInBounds_toArray, List.set_cons_zero, List.set_cons_succ])
          clear hq3
          refine wpAnyH_ready (rs := [6]) (by kernel_rfl) (by simp) ?_
          refine AllReadyH.cons (o := ?_) ?_ (fun K hK => ?_) AllReadyH.nil
          rotate_left 1
          · (simp only [List.getElem?_toArray, List.getElem?_cons_succ, List.getElem?_cons_zero]; first | done | rfl)
          go_simp
          first | (refine hK.out _ _ ?_ (fun hq5 => ?_)) | ((first | (go_at_call 9; (with_reducible refine (HMC1.out _ (s9_own (by assumption))).mono ?_); rintro e w9 ⟨⟨a9, c9, rfl, h91, h92, h93⟩, hb9⟩; have hcv9 := conv_lays (cap := c9) h93 HNE1.out) | (go_at_call 9; (with_reducible refine (HMC2.out _ (s9_own (by assumption))).mono ?_); rintro e w10 ⟨⟨a10, c10, rfl, h101, h102, h103⟩, hb10⟩; have hcv10 := conv_lays (cap := c10) h103 HNE2.out; have hcv9 := conv_lays (cap := c9) (h93.below hb10) HNE1.out)); refine hK.out _ _ ?_ (fun hq5 => ?_)) | ((first | (go_at_call 9; (with_reducible refine (HMC1.out _ (s9_own (by assumption))).mono ?_); rintro e w9 ⟨⟨a9, c9, rfl, h91, h92, h93⟩, hb9⟩; have hcv9 := conv_lays (cap := c9) h93 HNE1.out) | (go_at_call 9; (with_reducible refine (HMC2.out _ (s9_own (by assumption))).mono ?_); rintro e w10 ⟨⟨a10, c10, rfl, h101, h102, h103⟩, hb10⟩; have hcv10 := conv_lays (cap := c10) h103 HNE2.out; have hcv9 := conv_lays (cap := c9) (h93.below hb10) HNE1.out)); go_wp2_with fail; refine hK.out _ _ ?_ (fun hq5 => ?_)) | fail
          · ((try dsimp only); (first | exact s9_of HXC.out HYC.out (bdrewN (Below.refl _ _) 1) | assumption | exact s9_of HXC.out HYC.out (btrans (s9_own (by assumption)) (by assumption))))
          clear hK K
          (try simp only [Act.put, List.setIfInBounds_toArray, List.set_cons_zero, List.set_cons_succ])
          clear hq4
          refine wpAnyH_ready (rs := [8]) (by kernel_rfl) (by simp) ?_
          refine AllReadyH.cons (o := ?_) ?_ (fun K hK => ?_) AllReadyH.nil
          rotate_left 1
          · (simp only [List.getElem?_toArray, List.getElem?_cons_succ, List.getElem?_cons_zero]; first | done | rfl)
          go_simp
          first | (refine hK.out _ _ ?_ (fun hq6 => ?_)) | ((first | (go_at_call 9; (with_reducible refine (HMC1.out _ (s9_own (by assumption))).mono ?_); rintro e w9 ⟨⟨a9, c9, rfl, h91, h92, h93⟩, hb9⟩; have hcv9 := conv_lays (cap := c9) h93 HNE1.out) | (go_at_call 9; (with_reducible refine (HMC2.out _ (s9_own (by assumption))).mono ?_); rintro e w10 ⟨⟨a10, c10, rfl, h101, h102, h103⟩, hb10⟩; have hcv10 := conv_lays (cap := c10) h103 HNE2.out; have hcv9 := conv_lays (cap := c9) (h93.below hb10) HNE1.out)); refine hK.out _ _ ?_ (fun hq6 => ?_)) | ((first | (go_at_call 9; (with_reducible refine (HMC1.out _ (s9_own (by assumption))).mono ?_); rintro e w9 ⟨⟨a9, c9, rfl, h91, h92, h93⟩, hb9⟩; have hcv9 := conv_lays (cap := c9) h93 HNE1.out) | (go_at_call 9; (with_reducible refine (HMC2.out _ (s9_own (by assumption))).mono ?_); rintro e w10 ⟨⟨a10, c10, rfl, h101, h102, h103⟩, hb10⟩; have hcv10 := conv_lays (cap := c10) h103 HNE2.out; have hcv9 := conv_lays (cap := c9) (h93.below hb10) HNE1.out)); go_wp2_with fail; refine hK.out _ _ ?_ (fun hq6 => ?_)) | fail
          · ((try dsimp only); (first | exact s9_of HXC.out HYC.out (bdrewN (Below.refl _ _) 1) | assumption | exact s9_of HXC.out HYC.out (btrans (s9_own (by assumption)) (by assumption))))
          clear hK K
          (try simp only [Act.put, List.setIfInBounds_toArray, List.set_cons_zero, List.set_cons_succ])
          clear hq5
          refine wpAnyH_ready (rs := [9]) (by kernel_rfl) (by simp) ?_
          refine AllReadyH.cons (o := ?_) ?_ (fun K hK => ?_) AllReadyH.nil
          rotate_left 1
          · (simp only [List.getElem?_toArray, List.getElem?_cons_succ, List.getElem?_cons_zero]; first | done | rfl)
          go_simp
          first | (refine hK.out _ _ ?_ (fun hq7 => ?_)) | ((first | (go_at_call 9; (with_reducible refine (HMC1.out _ (s9_own (by assumption))).mono ?_); rintro e w9 ⟨⟨a9, c9, rfl, h91, h92, h93⟩, hb9⟩; have hcv9 := conv_lays (cap := c9) h93 HNE1.out) | (go_at_call 9; (with_reducible refine (HMC2.out _ (s9_own (by assumption))).mono ?_); rintro e w10 ⟨⟨a10, c10, rfl, h101, h102, h103⟩, hb10⟩; have hcv10 := conv_lays (cap := c10) h103 HNE2.out; have hcv9 := conv_lays (cap := c9) (h93.below hb10) HNE1.out)); refine hK.out _ _ ?_ (fun hq7 => ?_)) | ((first | (go_at_call 9; (with_reducible refine (HMC1.out _ (s9_own (by assumption))).mono ?_); rintro e w9 ⟨⟨a9, c9, rfl, h91, h92, h93⟩, hb9⟩; have hcv9 := conv_lays (cap := c9) h93 HNE1.out) | (go_at_call 9; (with_reducible refine (HMC2.out _ (s9_own (by assumption))).mono ?_); rintro e w10 ⟨⟨a10, c10, rfl, h101, h102, h103⟩, hb10⟩; have hcv10 := conv_lays (cap := c10) h103 HNE2.out; have hcv9 := conv_lays (cap := c9) (h93.below hb10) HNE1.out)); go_wp2_with fail; refine hK.out _ _ ?_ (fun hq7 => ?_)) | fail
          · ((try dsimp only); (first | exact s9_of HXC.out HYC.out (bdrewN (Below.refl _ _) 1) | assumption | exact s9_of HXC.out HYC.out (btrans (s9_own (by assumption)) (by assumption))))
          clear hK K
          (try simp only [Act.put, List.setIfInBounds_toArray, List.set_cons_zero, List.set_cons_succ])
          clear hq6
          refine wpAnyH_done (by kernel_rfl) ?_ _
          (go_wp2_with fail; go_ret; exact ⟨rfl, btrans HBW.out (s9_own (by assumption))⟩)
        · skip
          go_simp
          first | (refine hK.out _ _ ?_ (fun hq3 => ?_)) | ((first | (go_at_call 9; (with_reducible refine (HMC1.out _ (s9_own (by assumption))).mono ?_); rintro e w9 ⟨⟨a9, c9, rfl, h91, h92, h93⟩, hb9⟩; have hcv9 := conv_lays (cap := c9) h93 HNE1.out) | (go_at_call 9; (with_reducible refine (HMC2.out _ (s9_own (by assumption))).mono ?_); rintro e w10 ⟨⟨a10, c10, rfl, h101, h102, h103⟩, hb10⟩; have hcv10 := conv_lays (cap := c10) h103 HNE2.out; have hcv9 := conv_lays (cap := c9) (h93.below hb10) HNE1.out)); refine hK.out _ _ ?_ (fun hq3 => ?_)) | ((first | (go_at_call 9; (with_reducible refine (HMC1.out _ (s9_own (by assumption))).mono ?_); rintro e w9 ⟨⟨a9, c9, rfl, h91, h92, h93⟩, hb9⟩; have hcv9 := conv_lays (cap := c9) h93 HNE1.out) | (go_at_call 9; (with_reducible refine (HMC2.out _ (s9_own (by assumption))).mono ?_); rintro e w10 ⟨⟨a10, c10, rfl, h101, h102, h103⟩, hb10⟩; have hcv10 := conv_lays (cap := c10) h103 HNE2.out; have hcv9 := conv_lays (cap := c9) (h93.below hb10) HNE1.out)); go_wp2_with fail; refine hK.out _ _ ?_ (fun hq3 => ?_)) | fail
          · ((try dsimp only); (first | exact s9_of HXC.out HYC.out (bdrewN (Below.refl _ _) 1) | assumption | exact s9_of HXC.out HYC.out (btrans (s9_own (by assumption)) (by assumption))))
          clear hK K
          (try simp only [Act.put, List.setIfInBounds_toArray, List.set_cons_zero, List.set_cons_succ])
          clear hq2
          refine wpAnyH_ready (rs := [2]) (by kernel_rfl) (by simp) ?_
          refine AllReadyH.cons (o := ?_) ?_ (fun K hK => ?_) AllReadyH.nil
          rotate_left 1
          · (simp only [List.getElem?_toArray, List.getElem?_cons_succ, List.getElem?_cons_zero]; first | done | rfl)
          go_simp
          first | (refine hK.out _ _ ?_ (fun hq4 => ?_)) | ((first | (go_at_call 9; (with_reducible refine (HMC1.out _ (s9_own (by assumption))).mono ?_); rintro e w9 ⟨⟨a9, c9, rfl, h91, h92, h93⟩, hb9⟩; have hcv9 := conv_lays (cap := c9) h93 HNE1.out) | (go_at_call 9; (with_reducible refine (HMC2.out _ (s9_own (by assumption))).mono ?_); rintro e w10 ⟨⟨a10, c10, rfl, h101, h102, h103⟩, hb10⟩; have hcv10 := conv_lays (cap := c10) h103 HNE2.out; have hcv9 := conv_lays (cap := c9) (h93.below hb10) HNE1.out)); refine hK.out _ _ ?_ (fun hq4 => ?_)) | ((first | (go_at_call 9; (with_reducible refine (HMC1.out _ (s9_own (by assumption))).mono ?_); rintro e w9 ⟨⟨a9, c9, rfl, h91, h92, h93⟩, hb9⟩; have hcv9 := conv_lays (cap := c9) h93 HNE1.out) | (go_at_call 9; (with_reducible refine (HMC2.out _ (s9_own (by assumption))).mono ?_); rintro e w10 ⟨⟨a10, c10, rfl, h101, h102, h103⟩, hb10⟩; have hcv10 := conv_lays (cap := c10) h103 HNE2.out; have hcv9 := conv_lays (cap := c9) (h93.below hb10) HNE1.out)); go_wp2_with fail; refine hK.out _ _ ?_ (fun hq4 => ?_)) | fail
          · ((try dsimp only); (first | exact s9_of HXC.out HYC.out (bdrewN (Below.refl _ _) 1) | assumption | exact s9_of HXC.out HYC.out (btrans (s9_own (by assumption)) (by assumption))))
          clear hK K
          (try simp only [Act.put, List.setIfInBounds_toArray, List.set_cons_zero, List.set_cons_succ])
          clear hq3
          refine wpAnyH_ready (rs := [6]) (by kernel_rfl) (by simp) ?_
          refine AllReadyH.cons (o := ?_) ?_ (fun K hK => ?_) AllReadyH.nil
          rotate_left 1
          · (simp only [List.getElem?_toArray, List.getElem?_cons_succ, List.getElem?_cons_zero]; first | done | rfl)
          go_simp
          first | (refine hK.out _ _ ?_ (fun hq5 => ?_)) | ((first | (go_at_call 9; (with_reducible refine (HMC1.out _ (s9_own (by assumption))).mono ?_); rintro e w9 ⟨⟨a9, c9, rfl, h91, h92, h93⟩, hb9⟩; have hcv9 := conv_lays (cap := c9) h93 HNE1.out) | (go_at_call 9; (with_reducible refine (HMC2.out _ (s9_own (by assumption))).mono ?_); rintro e w10 ⟨⟨a10, c10, rfl, h101, h102, h103⟩, hb10⟩; have hcv10 := conv_lays (cap := c10) h103 HNE2.out; have hcv9 := conv_lays (cap := c9) (h93.below hb10) HNE1.out)); refine hK.out _ _ ?_ (fun hq5 => ?_)) | ((first | (go_at_call 9; (with_reducible refine (HMC1.out _ (s9_own (by assumption))).mono ?_); rintro e w9 ⟨⟨a9, c9, rfl, h91, h92, h93⟩, hb9⟩; have hcv9 := conv_lays (cap := c9) h93 HNE1.out) | (go_at_call 9; (with_reducible refine (HMC2.out _ (s9_own (by assumption))).mono ?_); rintro e w10 ⟨⟨a10, c10, rfl, h101, h102, h103⟩, hb10⟩; have hcv10 := conv_lays (cap := c10) h103 HNE2.out; have hcv9 := conv_lays (cap := c9) (h93.below hb10) HNE1.out)); go_wp2_with fail; refine hK.out _ _ ?_ (fun hq5 => ?_)) | fail
          · ((try dsimp only); (first | exact s9_of HXC.out HYC.out (bdrewN (Below.refl _ _) 1) | assumption | exact s9_of HXC.out HYC.out (btrans (s9_own (by assumption)) (by assumption))))
          clear hK K
          (try simp only [Act.put, List.setIfInBounds_toArray, List.set_cons_zero, List.set_cons_succ])
          clear hq4
          refine wpAnyH_ready (rs := [8]) (by kernel_rfl) (by simp) ?_
          refine AllReadyH.cons (o := ?_) ?_ (fun K hK => ?_) AllReadyH.nil
          rotate_left 1
          · (simp only [List.getElem?_toArray, List.getElem?_cons_succ, List.getElem?_cons_zero]; first | done | rfl)
          go_simp
          first | (refine hK.out _ _ ?_ (fun hq6 => ?_)) | ((first | (go_at_call 9; (with_reducible refine (HMC1.out _ (s9_own (by assumption))).mono ?_); rintro e w9 ⟨⟨a9, c9, rfl, h91, h92, h93⟩, hb9⟩; have hcv9 := conv_lays (cap := c9) h93 HNE1.out) | (go_at_call 9; (with_reducible refine (HMC2.out _ (s9_own (by assumption))).mono ?_); rintro e w10 ⟨⟨a10, c10, rfl, h101, h102, h103⟩, hb10⟩; have hcv10 := conv_lays (cap := c10) h103 HNE2.out; have hcv9 := conv_lays (cap := c9) (h93.below hb10) HNE1.out)); refine hK.out _ _ ?_ (fun hq6 => ?_)) | ((first | (go_at_call 9; (with_reducible refine (HMC1.out _ (s9_own (by assumption))).mono ?_); rintro e w9 ⟨⟨a9, c9, rfl, h91, h92, h93⟩, hb9⟩; have hcv9 := conv_lays (cap := c9) h93 HNE1.out) | (go_at_call 9; (with_reducible refine (HMC2.out _ (s9_own (by assumption))).mono ?_); rintro e w10 ⟨⟨a10, c10, rfl, h101, h102, h103⟩, hb10⟩; have hcv10 := conv_lays (cap := c10) h103 HNE2.out; have hcv9 := conv_lays (cap := c9) (h93.below hb10) HNE1.out)); go_wp2_with fail; refine hK.out _ _ ?_ (fun hq6 => ?_)) | fail
          · ((try dsimp only); (first | exact s9_of HXC.out HYC.out (bdrewN (Below.refl _ _) 1) | assumption | exact s9_of HXC.out HYC.out (btrans (s9_own (by assumption)) (by assumption))))
          clear hK K
          (try simp only [Act.put, List.setIfInBounds_toArray, List.set_cons_zero, List.set_cons_succ])
          clear hq5
          refine wpAnyH_ready (rs := [9]) (by kernel_rfl) (by simp) ?_
          refine AllReadyH.cons (o := ?_) ?_ (fun K hK => ?_) AllReadyH.nil
          rotate_left 1
          · (simp only [List.getElem?_toArray, List.getElem?_cons_succ, List.getElem?_cons_zero]; first | done | rfl)
          go_simp
          first | (refine hK.out _ _ ?_ (fun hq7 => ?_)) | ((first | (go_at_call 9; (with_reducible refine (HMC1.out _ (s9_own (by assumption))).mono ?_); rintro e w9 ⟨⟨a9, c9, rfl, h91, h92, h93⟩, hb9⟩; have hcv9 := conv_lays (cap := c9) h93 HNE1.out) | (go_at_call 9; (with_reducible refine (HMC2.out _ (s9_own (by assumption))).mono ?_); rintro e w10 ⟨⟨a10, c10, rfl, h101, h102, h103⟩, hb10⟩; have hcv10 := conv_lays (cap := c10) h103 HNE2.out; have hcv9 := conv_lays (cap := c9) (h93.below hb10) HNE1.out)); refine hK.out _ _ ?_ (fun hq7 => ?_)) | ((first | (go_at_call 9; (with_reducible refine (HMC1.out _ (s9_own (by assumption))).mono ?_); rintro e w9 ⟨⟨a9, c9, rfl, h91, h92, h93⟩, hb9⟩; have hcv9 := conv_lays (cap := c9) h93 HNE1.out) | (go_at_call 9; (with_reducible refine (HMC2.out _ (s9_own (by assumption))).mono ?_); rintro e w10 ⟨⟨a10, c10, rfl, h101, h102, h103⟩, hb10⟩; have hcv10 := conv_lays (cap := c10) h103 HNE2.out; have hcv9 := conv_lays (cap := c9) (h93.below hb10) HNE1.out)); go_wp2_with fail; refine hK.out _ _ ?_ (fun hq7 => ?_)) | fail
          · ((try dsimp only); (first | exact s9_of HXC.out HYC.out (bdrewN (Below.refl _ _) 1) | assumption | exact s9_of HXC.out HYC.out (btrans (s9_own (by assumption)) (by assumption))))
          clear hK K
          (try simp only [Act.put, List.setIfInBounds_toArray, List.set_cons_zero, List.set_cons_succ])
          clear hq6
          refine wpAnyH_done (by kernel_rfl) ?_ _
          (go_wp2_with fail; go_ret; exact ⟨rfl, btrans HBW.out (s9_own (by assumption))⟩)
end Go.Proofs.YtpbdgbejcdncgaaGreatDoor.Wire
end
