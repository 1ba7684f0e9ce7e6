/- THE WALK OF the law FilterChains. -/
import Derived.Test.YtdggofleokjmcaaGreatDoorEvL
import Derived.Test.YtdggofleokjmcaaGreatDoorFit07
import Derived.Test.YtdggofleokjmcaaGreatDoorOpenThree
import Derived.Deep.DeepCutAuto
import Derived.Deep.LoopGhost
import Derived.BigRegion
namespace Go.Proofs.YtdggofleokjmcaaGreatDoor.Val
open Go.RowKit Flt
attribute [local go_sem] run_store_flt
def Box6 (w : World) (b : Nat) (s1 : List UInt8) (a1 : Option Addr) (n1 c1 : Nat) (s2 : List UInt8) (a2 : Option Addr) (n2 c2 : Nat) (s3 : List UInt8) (a3 : Option Addr) (n3 c3 : Nat) : Prop :=
  w.cell? ⟨b, 0, none⟩ = some (.string ⟨s1.toArray⟩) ∧ w.cell? ⟨b, 1, none⟩ = some (.slice a1 n1 c1) ∧ w.cell? ⟨b, 2, none⟩ = some (.string ⟨s2.toArray⟩) ∧ w.cell? ⟨b, 3, none⟩ = some (.slice a2 n2 c2) ∧ w.cell? ⟨b, 4, none⟩ = some (.string ⟨s3.toArray⟩) ∧ w.cell? ⟨b, 5, none⟩ = some (.slice a3 n3 c3)
theorem Box6.below {w w2 : World} {b : Nat} {s1 : List UInt8} {a1 : Option Addr} {n1 c1 : Nat} {s2 : List UInt8} {a2 : Option Addr} {n2 c2 : Nat} {s3 : List UInt8} {a3 : Option Addr} {n3 c3 : Nat} (h : Box6 w b s1 a1 n1 c1 s2 a2 n2 c2 s3 a3 n3 c3) (hb : Below w.heap.size w w2) : Box6 w2 b s1 a1 n1 c1 s2 a2 n2 c2 s3 a3 n3 c3 := by
  obtain ⟨h0, h1, h2, h3, h4, h5⟩ := h
  exact ⟨(hb.cell (World.block_lt_of_cell? _ _ h0)).trans h0, (hb.cell (World.block_lt_of_cell? _ _ h1)).trans h1, (hb.cell (World.block_lt_of_cell? _ _ h2)).trans h2, (hb.cell (World.block_lt_of_cell? _ _ h3)).trans h3, (hb.cell (World.block_lt_of_cell? _ _ h4)).trans h4, (hb.cell (World.block_lt_of_cell? _ _ h5)).trans h5⟩
theorem box6_new (w : World) (s1 : List UInt8) (a1 : Option Addr) (n1 c1 : Nat) (s2 : List UInt8) (a2 : Option Addr) (n2 c2 : Nat) (s3 : List UInt8) (a3 : Option Addr) (n3 c3 : Nat) (T : TypeId) :
    Box6 (w.alloc (.cells #[.string ⟨s1.toArray⟩, .slice a1 n1 c1, .string ⟨s2.toArray⟩, .slice a2 n2 c2, .string ⟨s3.toArray⟩, .slice a3 n3 c3] T)) w.heap.size s1 a1 n1 c1 s2 a2 n2 c2 s3 a3 n3 c3 := by
  have c : ∀ o, (w.alloc (.cells #[.string ⟨s1.toArray⟩, .slice a1 n1 c1, .string ⟨s2.toArray⟩, .slice a2 n2 c2, .string ⟨s3.toArray⟩, .slice a3 n3 c3] T)).cell? ⟨w.heap.size, o, none⟩ = #[.string ⟨s1.toArray⟩, .slice a1 n1 c1, .string ⟨s2.toArray⟩, .slice a2 n2 c2, .string ⟨s3.toArray⟩, .slice a3 n3 c3][o]? := fun o => World.cell?_alloc_at _ _ _ _ rfl
  exact ⟨c 0, c 1, c 2, c 3, c 4, c 5⟩
theorem index3 (v0 v1 v2 v3 v4 v5 : Value) (w : World) :
    (Instr.index 71 (.agg #[v0, v1, v2, v3, v4, v5]) (.int .i64 0)).run Tryz.prog w = .ok (.agg #[v0, v1]) w ∧
    (Instr.index 71 (.agg #[v0, v1, v2, v3, v4, v5]) (.int .i64 1)).run Tryz.prog w = .ok (.agg #[v2, v3]) w ∧
    (Instr.index 71 (.agg #[v0, v1, v2, v3, v4, v5]) (.int .i64 2)).run Tryz.prog w = .ok (.agg #[v4, v5]) w := ⟨by kernel_rfl, by kernel_rfl, by kernel_rfl⟩
theorem box3_new (W : World) (s1 : List UInt8) (a1 : Option Addr) (n1 c1 : Nat) (s2 : List UInt8) (a2 : Option Addr) (n2 c2 : Nat) (s3 : List UInt8) (a3 : Option Addr) (n3 c3 : Nat) (T : TypeId) :
    Box2 (((W.alloc (.cells #[.string ⟨s1.toArray⟩, .slice a1 n1 c1] T)).alloc (.cells #[.string ⟨s2.toArray⟩, .slice a2 n2 c2] T)).alloc (.cells #[.string ⟨s3.toArray⟩, .slice a3 n3 c3] T)).drew W.heap.size s1 a1 n1 c1 ∧
    Box2 (((W.alloc (.cells #[.string ⟨s1.toArray⟩, .slice a1 n1 c1] T)).alloc (.cells #[.string ⟨s2.toArray⟩, .slice a2 n2 c2] T)).alloc (.cells #[.string ⟨s3.toArray⟩, .slice a3 n3 c3] T)).drew (W.heap.size + 1) s2 a2 n2 c2 ∧
    Box2 (((W.alloc (.cells #[.string ⟨s1.toArray⟩, .slice a1 n1 c1] T)).alloc (.cells #[.string ⟨s2.toArray⟩, .slice a2 n2 c2] T)).alloc (.cells #[.string ⟨s3.toArray⟩, .slice a3 n3 c3] T)).drew (W.heap.size + 1 + 1) s3 a3 n3 c3 ∧
    Below W.heap.size W (((W.alloc (.cells #[.string ⟨s1.toArray⟩, .slice a1 n1 c1] T)).alloc (.cells #[.string ⟨s2.toArray⟩, .slice a2 n2 c2] T)).alloc (.cells #[.string ⟨s3.toArray⟩, .slice a3 n3 c3] T)).drew := by
  have h1 := ((box2_new W s1 a1 n1 c1 T).below (balloc2 _ (.cells #[.string ⟨s2.toArray⟩, .slice a2 n2 c2] T) (.cells #[.string ⟨s3.toArray⟩, .slice a3 n3 c3] T)))
  have h2 := (box2_new (W.alloc (.cells #[.string ⟨s1.toArray⟩, .slice a1 n1 c1] T)) s2 a2 n2 c2 T).below (balloc _ (.cells #[.string ⟨s3.toArray⟩, .slice a3 n3 c3] T))
  have h3 := box2_new ((W.alloc (.cells #[.string ⟨s1.toArray⟩, .slice a1 n1 c1] T)).alloc (.cells #[.string ⟨s2.toArray⟩, .slice a2 n2 c2] T)) s3 a3 n3 c3 T
  rw [World.size_alloc] at h2
  rw [World.size_alloc, World.size_alloc] at h3
  exact ⟨h1, h2, h3, bdrewN (btrans (balloc2 W _ _) (balloc _ _)) 1⟩
theorem cR_below {pa pb pc p9 : Nat} {s1 s2 s3 se : List UInt8} {a1 a2 a3 e0 : Option Addr} {c1 c2 c3 ecp : Nat} {l1 l2 l3 : List C} {el : List A} {w w1 w2 : World} (hb : Below w1.heap.size w1 w2) (h : (fun w' => w'.cell? ⟨pa, 0, none⟩ = some (.string ⟨s1.toArray⟩) ∧ w'.cell? ⟨pa, 1, none⟩ = some (.slice a1 l1.length c1) ∧ w'.cell? ⟨pb, 0, none⟩ = some (.string ⟨s2.toArray⟩) ∧ w'.cell? ⟨pb, 1, none⟩ = some (.slice a2 l2.length c2) ∧ w'.cell? ⟨pc, 0, none⟩ = some (.string ⟨s3.toArray⟩) ∧ w'.cell? ⟨pc, 1, none⟩ = some (.slice a3 l3.length c3) ∧ w'.cell? ⟨p9, 0, none⟩ = some (.string ⟨se.toArray⟩) ∧ w'.cell? ⟨p9, 1, none⟩ = some (.slice e0 el.length ecp) ∧ Conds w' a1 l1 ∧ Conds w' a2 l2 ∧ Conds w' a3 l3 ∧ Attrs w' e0 el ∧ Below w.heap.size w w' ∧ pa < w'.heap.size ∧ pb < w'.heap.size ∧ pc < w'.heap.size ∧ p9 < w'.heap.size) w1) : (fun w' => w'.cell? ⟨pa, 0, none⟩ = some (.string ⟨s1.toArray⟩) ∧ w'.cell? ⟨pa, 1, none⟩ = some (.slice a1 l1.length c1) ∧ w'.cell? ⟨pb, 0, none⟩ = some (.string ⟨s2.toArray⟩) ∧ w'.cell? ⟨pb, 1, none⟩ = some (.slice a2 l2.length c2) ∧ w'.cell? ⟨pc, 0, none⟩ = some (.string ⟨s3.toArray⟩) ∧ w'.cell? ⟨pc, 1, none⟩ = some (.slice a3 l3.length c3) ∧ w'.cell? ⟨p9, 0, none⟩ = some (.string ⟨se.toArray⟩) ∧ w'.cell? ⟨p9, 1, none⟩ = some (.slice e0 el.length ecp) ∧ Conds w' a1 l1 ∧ Conds w' a2 l2 ∧ Conds w' a3 l3 ∧ Attrs w' e0 el ∧ Below w.heap.size w w' ∧ pa < w'.heap.size ∧ pb < w'.heap.size ∧ pc < w'.heap.size ∧ p9 < w'.heap.size) w2 := by
  obtain ⟨x0, x1, y0, y1, z0, z1, e1, e2, g1, g2, g3, g, hB, la, lb, lc, le⟩ := h
  have c : ∀ b o, b < w1.heap.size → w2.cell? ⟨b, o, none⟩ = w1.cell? ⟨b, o, none⟩ := fun b o hl => hb.cell (p := ⟨b, o, none⟩) hl
  exact ⟨by rw [c _ _ la]; exact x0, by rw [c _ _ la]; exact x1, by rw [c _ _ lb]; exact y0, by rw [c _ _ lb]; exact y1, by rw [c _ _ lc]; exact z0, by rw [c _ _ lc]; exact z1, by rw [c _ _ le]; exact e1, by rw [c _ _ le]; exact e2, g1.below hb, g2.below hb, g3.below hb, g.below hb, btrans hB hb, Nat.lt_of_lt_of_le la hb.size, Nat.lt_of_lt_of_le lb hb.size, Nat.lt_of_lt_of_le lc hb.size, Nat.lt_of_lt_of_le le hb.size⟩
theorem cR_c1 {pa pb pc p9 : Nat} {s1 s2 s3 se : List UInt8} {a1 a2 a3 e0 : Option Addr} {c1 c2 c3 ecp : Nat} {l1 l2 l3 : List C} {el : List A} {w w1 : World} (h : (fun w' => w'.cell? ⟨pa, 0, none⟩ = some (.string ⟨s1.toArray⟩) ∧ w'.cell? ⟨pa, 1, none⟩ = some (.slice a1 l1.length c1) ∧ w'.cell? ⟨pb, 0, none⟩ = some (.string ⟨s2.toArray⟩) ∧ w'.cell? ⟨pb, 1, none⟩ = some (.slice a2 l2.length c2) ∧ w'.cell? ⟨pc, 0, none⟩ = some (.string ⟨s3.toArray⟩) ∧ w'.cell? ⟨pc, 1, none⟩ = some (.slice a3 l3.length c3) ∧ w'.cell? ⟨p9, 0, none⟩ = some (.string ⟨se.toArray⟩) ∧ w'.cell? ⟨p9, 1, none⟩ = some (.slice e0 el.length ecp) ∧ Conds w' a1 l1 ∧ Conds w' a2 l2 ∧ Conds w' a3 l3 ∧ Attrs w' e0 el ∧ Below w.heap.size w w' ∧ pa < w'.heap.size ∧ pb < w'.heap.size ∧ pc < w'.heap.size ∧ p9 < w'.heap.size) w1) : Conds w1 a1 l1 := h.2.2.2.2.2.2.2.2.1
theorem cR_c2 {pa pb pc p9 : Nat} {s1 s2 s3 se : List UInt8} {a1 a2 a3 e0 : Option Addr} {c1 c2 c3 ecp : Nat} {l1 l2 l3 : List C} {el : List A} {w w1 : World} (h : (fun w' => w'.cell? ⟨pa, 0, none⟩ = some (.string ⟨s1.toArray⟩) ∧ w'.cell? ⟨pa, 1, none⟩ = some (.slice a1 l1.length c1) ∧ w'.cell? ⟨pb, 0, none⟩ = some (.string ⟨s2.toArray⟩) ∧ w'.cell? ⟨pb, 1, none⟩ = some (.slice a2 l2.length c2) ∧ w'.cell? ⟨pc, 0, none⟩ = some (.string ⟨s3.toArray⟩) ∧ w'.cell? ⟨pc, 1, none⟩ = some (.slice a3 l3.length c3) ∧ w'.cell? ⟨p9, 0, none⟩ = some (.string ⟨se.toArray⟩) ∧ w'.cell? ⟨p9, 1, none⟩ = some (.slice e0 el.length ecp) ∧ Conds w' a1 l1 ∧ Conds w' a2 l2 ∧ Conds w' a3 l3 ∧ Attrs w' e0 el ∧ Below w.heap.size w w' ∧ pa < w'.heap.size ∧ pb < w'.heap.size ∧ pc < w'.heap.size ∧ p9 < w'.heap.size) w1) : Conds w1 a2 l2 := h.2.2.2.2.2.2.2.2.2.1
theorem cR_at {pa pb pc p9 : Nat} {s1 s2 s3 se : List UInt8} {a1 a2 a3 e0 : Option Addr} {c1 c2 c3 ecp : Nat} {l1 l2 l3 : List C} {el : List A} {w w1 : World} (h : (fun w' => w'.cell? ⟨pa, 0, none⟩ = some (.string ⟨s1.toArray⟩) ∧ w'.cell? ⟨pa, 1, none⟩ = some (.slice a1 l1.length c1) ∧ w'.cell? ⟨pb, 0, none⟩ = some (.string ⟨s2.toArray⟩) ∧ w'.cell? ⟨pb, 1, none⟩ = some (.slice a2 l2.length c2) ∧ w'.cell? ⟨pc, 0, none⟩ = some (.string ⟨s3.toArray⟩) ∧ w'.cell? ⟨pc, 1, none⟩ = some (.slice a3 l3.length c3) ∧ w'.cell? ⟨p9, 0, none⟩ = some (.string ⟨se.toArray⟩) ∧ w'.cell? ⟨p9, 1, none⟩ = some (.slice e0 el.length ecp) ∧ Conds w' a1 l1 ∧ Conds w' a2 l2 ∧ Conds w' a3 l3 ∧ Attrs w' e0 el ∧ Below w.heap.size w w' ∧ pa < w'.heap.size ∧ pb < w'.heap.size ∧ pc < w'.heap.size ∧ p9 < w'.heap.size) w1) : Attrs w1 e0 el := h.2.2.2.2.2.2.2.2.2.2.2.1
theorem cR_own {pa pb pc p9 : Nat} {s1 s2 s3 se : List UInt8} {a1 a2 a3 e0 : Option Addr} {c1 c2 c3 ecp : Nat} {l1 l2 l3 : List C} {el : List A} {w w1 : World} (h : (fun w' => w'.cell? ⟨pa, 0, none⟩ = some (.string ⟨s1.toArray⟩) ∧ w'.cell? ⟨pa, 1, none⟩ = some (.slice a1 l1.length c1) ∧ w'.cell? ⟨pb, 0, none⟩ = some (.string ⟨s2.toArray⟩) ∧ w'.cell? ⟨pb, 1, none⟩ = some (.slice a2 l2.length c2) ∧ w'.cell? ⟨pc, 0, none⟩ = some (.string ⟨s3.toArray⟩) ∧ w'.cell? ⟨pc, 1, none⟩ = some (.slice a3 l3.length c3) ∧ w'.cell? ⟨p9, 0, none⟩ = some (.string ⟨se.toArray⟩) ∧ w'.cell? ⟨p9, 1, none⟩ = some (.slice e0 el.length ecp) ∧ Conds w' a1 l1 ∧ Conds w' a2 l2 ∧ Conds w' a3 l3 ∧ Attrs w' e0 el ∧ Below w.heap.size w w' ∧ pa < w'.heap.size ∧ pb < w'.heap.size ∧ pc < w'.heap.size ∧ p9 < w'.heap.size) w1) : Below w.heap.size w w1 := h.2.2.2.2.2.2.2.2.2.2.2.2.1
def FOk (s : List UInt8) (l : List C) : Prop := l.length ≤ 20 ∧ fRight s l = true
set_option maxRecDepth 20000 in
set_option maxHeartbeats 8000000 in
theorem fchains_law (s1 : List UInt8) (a1 : Option Addr) (c1 : Nat) (l1 : List C) (s2 : List UInt8) (a2 : Option Addr) (c2 : Nat) (l2 : List C) (s3 : List UInt8) (a3 : Option Addr) (c3 : Nat) (l3 : List C) (s : List UInt8) (b0 : Option Addr) (bcap : Nat) (al : List A) (w : World) (hw : Words w)
    (h1 : Open.FIn w s1 a1 c1 l1) (h2 : Open.FIn w s2 a2 c2 l2) (h3 : Open.FIn w s3 a3 c3 l3) (hs : s.length ≤ 140737488351232) (ha : Attrs w b0 al) (hoka : ∀ x ∈ al, Open.AOk x) (ham : al.length ≤ maxLen) :
    Calls Tryz.prog 13 #[.agg #[.string ⟨s1.toArray⟩, .slice a1 l1.length c1, .string ⟨s2.toArray⟩, .slice a2 l2.length c2, .string ⟨s3.toArray⟩, .slice a3 l3.length c3], .string ⟨s.toArray⟩, .slice b0 al.length bcap] w fun e w' => e = .returned (.bool true) ∧ Below w.heap.size w w' := by
  obtain ⟨z1, q1, m1, cs1, ok1, _⟩ := h1
  have hli1 (W : World) (h : Conds W a1 l1) := light07_any s1 a1 c1 l1 W h (Nat.le_trans q1 m1)
  have hri1 (W : World) (h : Conds W a1 l1) (hm : l1.length ≤ 1000000) := fright_any s1 a1 c1 l1 W h hm z1 (fun c hc => ⟨(ok1 c hc).1, (ok1 c hc).2.2.2.2.2⟩)
  have num1 : ∀ c ∈ l1, c.val.num < 18446744073709551616 := fun c hc => (ok1 c hc).2.2.2.2.1
  have HC1 := Lib.hid cs1; have HLI1 := Lib.hid hli1; have HRI1 := Lib.hid hri1; have HN1 := Lib.hid num1
  clear cs1 hli1 hri1 num1 ok1 q1 m1
  obtain ⟨z2, q2, m2, cs2, ok2, _⟩ := h2
  have hli2 (W : World) (h : Conds W a2 l2) := light07_any s2 a2 c2 l2 W h (Nat.le_trans q2 m2)
  have hri2 (W : World) (h : Conds W a2 l2) (hm : l2.length ≤ 1000000) := fright_any s2 a2 c2 l2 W h hm z2 (fun c hc => ⟨(ok2 c hc).1, (ok2 c hc).2.2.2.2.2⟩)
  have num2 : ∀ c ∈ l2, c.val.num < 18446744073709551616 := fun c hc => (ok2 c hc).2.2.2.2.1
  have HC2 := Lib.hid cs2; have HLI2 := Lib.hid hli2; have HRI2 := Lib.hid hri2; have HN2 := Lib.hid num2
  clear cs2 hli2 hri2 num2 ok2 q2 m2
  obtain ⟨z3, q3, m3, cs3, ok3, _⟩ := h3
  have hli3 (W : World) (h : Conds W a3 l3) := light07_any s3 a3 c3 l3 W h (Nat.le_trans q3 m3)
  have hri3 (W : World) (h : Conds W a3 l3) (hm : l3.length ≤ 1000000) := fright_any s3 a3 c3 l3 W h hm z3 (fun c hc => ⟨(ok3 c hc).1, (ok3 c hc).2.2.2.2.2⟩)
  have num3 : ∀ c ∈ l3, c.val.num < 18446744073709551616 := fun c hc => (ok3 c hc).2.2.2.2.1
  have HC3 := Lib.hid cs3; have HLI3 := Lib.hid hli3; have HRI3 := Lib.hid hri3; have HN3 := Lib.hid num3
  clear cs3 hli3 hri3 num3 ok3 q3 m3
  have hfw (W : World) (h : Attrs W b0 al) := few07_any b0 bcap al W h ham
  have hev (W : World) (h : Attrs W b0 al) (hm : al.length ≤ 20) := event07_any s b0 bcap al W h (by omega) hs hoka
  have hel : (evL al).length ≤ 8 := by unfold evL; rw [List.length_take]; omega
  have hss : (evS s).length ≤ 140737488351232 := by unfold evS; split <;> simp [hs]
  generalize evL al = el at *
  generalize hse : evS s = se at *
  have HW := Lib.hid hw; have HA := Lib.hid ha; have HFW := Lib.hid hfw; have HEV := Lib.hid hev
  clear hw ha hoka hfw hev ham hs hse
  go_enter Tryz.func13, Tryz.ntmps13
  go_wp2_with fail
  refine (fit07_any _ (HW.out.below (balloc _ _))).mono ?_; rintro e w1 ⟨rfl, hb1⟩
  have hbx := (box6_new w s1 a1 l1.length c1 s2 a2 l2.length c2 s3 a3 l3.length c3 71).below hb1
  have hbr := btrans (balloc w (.cells #[.string ⟨s1.toArray⟩, .slice a1 l1.length c1, .string ⟨s2.toArray⟩, .slice a2 l2.length c2, .string ⟨s3.toArray⟩, .slice a3 l3.length c3] 71)) hb1
  have HBX := Lib.hid hbx; have HBR := Lib.hid hbr
  obtain ⟨f0, f1, f2, f3, f4, f5⟩ := hbx
  clear hbr hb1 HW
  go_wp2_with fail
  clear f0 f1 f2 f3 f4 f5
  go_loopw [16] (fun vi wr => ∃ k : Nat, k ≤ 3 ∧ vi = .int .i64 k ∧ Hid (1 ≤ k → FOk s1 l1) ∧ Hid (2 ≤ k → FOk s2 l2) ∧ Hid (3 ≤ k → FOk s3 l3) ∧ Below w1.heap.size w1 wr) (fun vi _ => 3 - (intOf vi).toNat)
  case atStart => exact ⟨0, by omega, rfl, Lib.hid (fun h => by omega), Lib.hid (fun h => by omega), Lib.hid (fun h => by omega), Below.refl _ _⟩
  case round =>
    obtain ⟨k, hk, rfl, P1, P2, P3, hbr⟩ := hrel
    have HBZ := Lib.hid (btrans HBR.out hbr)
    rcases (show k = 0 ∨ k = 1 ∨ k = 2 ∨ k = 3 by omega) with rfl | rfl | rfl | rfl
    · have hix (W : World) := (index3 (.string ⟨s1.toArray⟩) (.slice a1 l1.length c1) (.string ⟨s2.toArray⟩) (.slice a2 l2.length c2) (.string ⟨s3.toArray⟩) (.slice a3 l3.length c3) W).1
      generalize hfr : fRight s1 l1 = fr at *
      have HFR := Lib.hid hfr; clear hfr
      go_wp2_with fail
      refine (HLI1.out _ (HC1.out.below (btrans HBZ.out (balloc _ _)))).mono ?_; rintro e w2 ⟨⟨fb, rfl, hfl⟩, hb2⟩
      have hx := (box2_new wr s1 a1 l1.length c1 63).below hb2
      have HB2 := Lib.hid (btrans (btrans HBZ.out (balloc wr (.cells #[.string ⟨s1.toArray⟩, .slice a1 l1.length c1] 63))) hb2)
      have HB3 := Lib.hid (btrans (btrans hbr (balloc wr (.cells #[.string ⟨s1.toArray⟩, .slice a1 l1.length c1] 63))) hb2)
      clear hb2
      obtain ⟨g0, g1⟩ := hx
      cases fb
      · go_wp2_with fail
        go_ret
        exact ⟨rfl, HB2.out⟩
      have hl := hfl rfl
      clear hfl
      go_wp2_with fail
      refine (HRI1.out _ (HC1.out.below HB2.out) (by omega)).mono ?_; rintro e w3 ⟨rfl, hb3⟩
      cases fr
      · go_wp2_with fail
        go_ret
        exact ⟨rfl, btrans HB2.out hb3⟩
      · go_wp2_with fail
        exact ⟨⟨0 + 1, by omega, by go_num, Lib.hid (fun _ => ⟨hl, HFR.out⟩), Lib.hid (fun h => by omega), Lib.hid (fun h => by omega), btrans HB3.out hb3⟩, by simp [intOf]⟩
    · have hix (W : World) := (index3 (.string ⟨s1.toArray⟩) (.slice a1 l1.length c1) (.string ⟨s2.toArray⟩) (.slice a2 l2.length c2) (.string ⟨s3.toArray⟩) (.slice a3 l3.length c3) W).2.1
      generalize hfr : fRight s2 l2 = fr at *
      have HFR := Lib.hid hfr; clear hfr
      go_wp2_with fail
      refine (HLI2.out _ (HC2.out.below (btrans HBZ.out (balloc _ _)))).mono ?_; rintro e w2 ⟨⟨fb, rfl, hfl⟩, hb2⟩
      have hx := (box2_new wr s2 a2 l2.length c2 63).below hb2
      have HB2 := Lib.hid (btrans (btrans HBZ.out (balloc wr (.cells #[.string ⟨s2.toArray⟩, .slice a2 l2.length c2] 63))) hb2)
      have HB3 := Lib.hid (btrans (btrans hbr (balloc wr (.cells #[.string ⟨s2.toArray⟩, .slice a2 l2.length c2] 63))) hb2)
      clear hb2
      obtain ⟨g0, g1⟩ := hx
      cases fb
      · go_wp2_with fail
        go_ret
        exact ⟨rfl, HB2.out⟩
      have hl := hfl rfl
      clear hfl
      go_wp2_with fail
      refine (HRI2.out _ (HC2.out.below HB2.out) (by omega)).mono ?_; rintro e w3 ⟨rfl, hb3⟩
      cases fr
      · go_wp2_with fail
        go_ret
        exact ⟨rfl, btrans HB2.out hb3⟩
      · go_wp2_with fail
        exact ⟨⟨1 + 1, by omega, by go_num, Lib.hid (fun _ => P1.out (by omega)), Lib.hid (fun _ => ⟨hl, HFR.out⟩), Lib.hid (fun h => by omega), btrans HB3.out hb3⟩, by simp [intOf]⟩
    · have hix (W : World) := (index3 (.string ⟨s1.toArray⟩) (.slice a1 l1.length c1) (.string ⟨s2.toArray⟩) (.slice a2 l2.length c2) (.string ⟨s3.toArray⟩) (.slice a3 l3.length c3) W).2.2
      generalize hfr : fRight s3 l3 = fr at *
      have HFR := Lib.hid hfr; clear hfr
      go_wp2_with fail
      refine (HLI3.out _ (HC3.out.below (btrans HBZ.out (balloc _ _)))).mono ?_; rintro e w2 ⟨⟨fb, rfl, hfl⟩, hb2⟩
      have hx := (box2_new wr s3 a3 l3.length c3 63).below hb2
      have HB2 := Lib.hid (btrans (btrans HBZ.out (balloc wr (.cells #[.string ⟨s3.toArray⟩, .slice a3 l3.length c3] 63))) hb2)
      have HB3 := Lib.hid (btrans (btrans hbr (balloc wr (.cells #[.string ⟨s3.toArray⟩, .slice a3 l3.length c3] 63))) hb2)
      clear hb2
      obtain ⟨g0, g1⟩ := hx
      cases fb
      · go_wp2_with fail
        go_ret
        exact ⟨rfl, HB2.out⟩
      have hl := hfl rfl
      clear hfl
      go_wp2_with fail
      refine (HRI3.out _ (HC3.out.below HB2.out) (by omega)).mono ?_; rintro e w3 ⟨rfl, hb3⟩
      cases fr
      · go_wp2_with fail
        go_ret
        exact ⟨rfl, btrans HB2.out hb3⟩
      · go_wp2_with fail
        exact ⟨⟨2 + 1, by omega, by go_num, Lib.hid (fun _ => P1.out (by omega)), Lib.hid (fun _ => P2.out (by omega)), Lib.hid (fun _ => ⟨hl, HFR.out⟩), btrans HB3.out hb3⟩, by simp [intOf]⟩
    · have O1 := Lib.hid (P1.out (by omega)); have O2 := Lib.hid (P2.out (by omega)); have O3 := Lib.hid (P3.out (by omega))
      clear P1 P2 P3
      have HXR := Lib.hid (HBX.out.below hbr)
      clear hbr HBX HBR HLI1 HLI2 HLI3 HRI1 HRI2 HRI3
      go_wp2_with fail
      refine (HFW.out _ (HA.out.below HBZ.out)).mono ?_; rintro e w4 ⟨⟨fb, rfl, hfl⟩, hbn⟩
      have HB4 := Lib.hid (btrans HBZ.out hbn)
      have HX4 := Lib.hid (HXR.out.below hbn)
      clear hbn HBZ HXR
      cases fb
      · go_wp2_with fail
        go_ret
        exact ⟨rfl, HB4.out⟩
      have ha20 := hfl rfl
      clear hfl
      by_cases h100 : s.length ≤ 100
      rotate_left
      · have d1 : (100 : Int) < (s.length : Int) := by omega
        go_wp2_with fail
        go_ret
        exact ⟨rfl, HB4.out⟩
      have d1 : ¬ (100 : Int) < (s.length : Int) := by omega
      go_wp2_with fail
      refine (HEV.out _ (HA.out.below HB4.out) ha20).mono ?_
      rintro e w6 ⟨e0, ecp, rfl, hat6, hbn⟩
      have HB6 := Lib.hid (btrans (btrans HB4.out hbn) (balloc w6 (.cells #[.string ⟨se.toArray⟩, .slice e0 el.length ecp] 26)))
      have HX6 := Lib.hid ((HX4.out.below hbn).below (balloc w6 (.cells #[.string ⟨se.toArray⟩, .slice e0 el.length ecp] 26)))
      have HE6 := Lib.hid (box2_new w6 se e0 el.length ecp 26)
      have HA6 := Lib.hid (hat6.below (balloc w6 (.cells #[.string ⟨se.toArray⟩, .slice e0 el.length ecp] 26)))
      clear hbn hat6 HB4 HX4 HEV HFW HA
      go_upto_region 12 with fail
      generalize w6.alloc _ = W0 at *
      generalize w6.heap.size = p9 at *
      go_cut [10, 11, 12] (fun va vb vc wx => ∃ pa pb pc : Nat, va = .pointer (some ⟨pa, 0, none⟩) ∧ vb = .pointer (some ⟨pb, 0, none⟩) ∧ vc = .pointer (some ⟨pc, 0, none⟩) ∧ Hid (Box2 wx pa s1 a1 l1.length c1) ∧ Hid (Box2 wx pb s2 a2 l2.length c2) ∧ Hid (Box2 wx pc s3 a3 l3.length c3) ∧ Hid (Below W0.heap.size W0 wx))
      case first => as_aux_lemma =>
        have hlt0 : w.heap.size < W0.heap.size := World.block_lt_of_cell? _ _ HX6.out.1
        obtain ⟨f0, f1, f2, f3, f4, f5⟩ := HX6.out
        clear HX6 HE6 HA6 HB6 O1 O2 O3 HN1 HN2 HN3 HC1 HC2 HC3
        generalize w.heap.size = p3 at *
        have hlt1 : p3 < W0.heap.size + 1 := by omega
        have hlt2 : p3 < W0.heap.size + 1 + 1 := by omega
        have hne0 : ¬ p3 = W0.heap.size := by omega
        have hne1 : ¬ p3 = W0.heap.size + 1 := by omega
        have hne2 : ¬ p3 = W0.heap.size + 1 + 1 := by omega
        go_region
        all_goals
          go_wp2_with fail
          go_meet
          first
          | exact ⟨_, _, _, rfl, rfl, rfl, Lib.hid (box3_new W0 s1 a1 l1.length c1 s2 a2 l2.length c2 s3 a3 l3.length c3 63).1, Lib.hid (box3_new W0 s1 a1 l1.length c1 s2 a2 l2.length c2 s3 a3 l3.length c3 63).2.1, Lib.hid (box3_new W0 s1 a1 l1.length c1 s2 a2 l2.length c2 s3 a3 l3.length c3 63).2.2.1, Lib.hid (box3_new W0 s1 a1 l1.length c1 s2 a2 l2.length c2 s3 a3 l3.length c3 63).2.2.2⟩
          | exact ⟨_, _, _, rfl, rfl, rfl, Lib.hid (box3_new W0 s1 a1 l1.length c1 s3 a3 l3.length c3 s2 a2 l2.length c2 63).1, Lib.hid (box3_new W0 s1 a1 l1.length c1 s3 a3 l3.length c3 s2 a2 l2.length c2 63).2.2.1, Lib.hid (box3_new W0 s1 a1 l1.length c1 s3 a3 l3.length c3 s2 a2 l2.length c2 63).2.1, Lib.hid (box3_new W0 s1 a1 l1.length c1 s3 a3 l3.length c3 s2 a2 l2.length c2 63).2.2.2⟩
          | exact ⟨_, _, _, rfl, rfl, rfl, Lib.hid (box3_new W0 s2 a2 l2.length c2 s1 a1 l1.length c1 s3 a3 l3.length c3 63).2.1, Lib.hid (box3_new W0 s2 a2 l2.length c2 s1 a1 l1.length c1 s3 a3 l3.length c3 63).1, Lib.hid (box3_new W0 s2 a2 l2.length c2 s1 a1 l1.length c1 s3 a3 l3.length c3 63).2.2.1, Lib.hid (box3_new W0 s2 a2 l2.length c2 s1 a1 l1.length c1 s3 a3 l3.length c3 63).2.2.2⟩
          | exact ⟨_, _, _, rfl, rfl, rfl, Lib.hid (box3_new W0 s2 a2 l2.length c2 s3 a3 l3.length c3 s1 a1 l1.length c1 63).2.2.1, Lib.hid (box3_new W0 s2 a2 l2.length c2 s3 a3 l3.length c3 s1 a1 l1.length c1 63).1, Lib.hid (box3_new W0 s2 a2 l2.length c2 s3 a3 l3.length c3 s1 a1 l1.length c1 63).2.1, Lib.hid (box3_new W0 s2 a2 l2.length c2 s3 a3 l3.length c3 s1 a1 l1.length c1 63).2.2.2⟩
          | exact ⟨_, _, _, rfl, rfl, rfl, Lib.hid (box3_new W0 s3 a3 l3.length c3 s1 a1 l1.length c1 s2 a2 l2.length c2 63).2.1, Lib.hid (box3_new W0 s3 a3 l3.length c3 s1 a1 l1.length c1 s2 a2 l2.length c2 63).2.2.1, Lib.hid (box3_new W0 s3 a3 l3.length c3 s1 a1 l1.length c1 s2 a2 l2.length c2 63).1, Lib.hid (box3_new W0 s3 a3 l3.length c3 s1 a1 l1.length c1 s2 a2 l2.length c2 63).2.2.2⟩
          | exact ⟨_, _, _, rfl, rfl, rfl, Lib.hid (box3_new W0 s3 a3 l3.length c3 s2 a2 l2.length c2 s1 a1 l1.length c1 63).2.2.1, Lib.hid (box3_new W0 s3 a3 l3.length c3 s2 a2 l2.length c2 s1 a1 l1.length c1 63).2.1, Lib.hid (box3_new W0 s3 a3 l3.length c3 s2 a2 l2.length c2 s1 a1 l1.length c1 63).1, Lib.hid (box3_new W0 s3 a3 l3.length c3 s2 a2 l2.length c2 s1 a1 l1.length c1 63).2.2.2⟩
      case rest => as_aux_lemma =>
        obtain ⟨pa, pb, pc, rfl, rfl, rfl, BA, BB, BC, HBW⟩ := hcut
        have hst : (fun w' => w'.cell? ⟨pa, 0, none⟩ = some (.string ⟨s1.toArray⟩) ∧ w'.cell? ⟨pa, 1, none⟩ = some (.slice a1 l1.length c1) ∧ w'.cell? ⟨pb, 0, none⟩ = some (.string ⟨s2.toArray⟩) ∧ w'.cell? ⟨pb, 1, none⟩ = some (.slice a2 l2.length c2) ∧ w'.cell? ⟨pc, 0, none⟩ = some (.string ⟨s3.toArray⟩) ∧ w'.cell? ⟨pc, 1, none⟩ = some (.slice a3 l3.length c3) ∧ w'.cell? ⟨p9, 0, none⟩ = some (.string ⟨se.toArray⟩) ∧ w'.cell? ⟨p9, 1, none⟩ = some (.slice e0 el.length ecp) ∧ Conds w' a1 l1 ∧ Conds w' a2 l2 ∧ Conds w' a3 l3 ∧ Attrs w' e0 el ∧ Below w.heap.size w w' ∧ pa < w'.heap.size ∧ pb < w'.heap.size ∧ pc < w'.heap.size ∧ p9 < w'.heap.size) wc := by
          obtain ⟨x0, x1⟩ := BA.out
          obtain ⟨y0, y1⟩ := BB.out
          obtain ⟨z0, z1⟩ := BC.out
          obtain ⟨e1, e2⟩ := HE6.out.below HBW.out
          have hb := btrans HB6.out HBW.out
          exact ⟨x0, x1, y0, y1, z0, z1, e1, e2, HC1.out.below hb, HC2.out.below hb, HC3.out.below hb, HA6.out.below HBW.out, hb, World.block_lt_of_cell? _ _ x0, World.block_lt_of_cell? _ _ y0, World.block_lt_of_cell? _ _ z0, World.block_lt_of_cell? _ _ e1⟩
        have HS := Lib.hid hst
        clear hst BA BB BC HBW HE6 HA6 HB6 HX6
        have hab (W : World) (g1 : Conds W a1 l1) (g2 : Conds W a2 l2) := fcovers_any s1 a1 c1 l1 s2 a2 c2 l2 W g1 g2 (by have := O1.out.1; omega) (by have := O2.out.1; omega) z1 z2 (fright_op O2.out.2) HN2.out HN1.out
        have hba (W : World) (g1 : Conds W a1 l1) (g2 : Conds W a2 l2) := fcovers_any s2 a2 c2 l2 s1 a1 c1 l1 W g2 g1 (by have := O2.out.1; omega) (by have := O1.out.1; omega) z2 z1 (fright_op O1.out.2) HN1.out HN2.out
        have hbc (W : World) (g2 : Conds W a2 l2) (g3 : Conds W a3 l3) := fcovers_any s2 a2 c2 l2 s3 a3 c3 l3 W g2 g3 (by have := O2.out.1; omega) (by have := O3.out.1; omega) z2 z3 (fright_op O3.out.2) HN3.out HN2.out
        have hac (W : World) (g1 : Conds W a1 l1) (g3 : Conds W a3 l3) := fcovers_any s1 a1 c1 l1 s3 a3 c3 l3 W g1 g3 (by have := O1.out.1; omega) (by have := O3.out.1; omega) z1 z3 (fright_op O3.out.2) HN3.out HN1.out
        have hma (W : World) (g1 : Conds W a1 l1) (g : Attrs W e0 el) := fmatch_any s1 a1 c1 l1 se e0 ecp el W g1 g (by have := O1.out.1; omega) (by omega) z1 hss
        have hmb (W : World) (g2 : Conds W a2 l2) (g : Attrs W e0 el) := fmatch_any s2 a2 c2 l2 se e0 ecp el W g2 g (by have := O2.out.1; omega) (by omega) z2 hss
        have htr := @covers_trans s1 s2 s3 l1 l2 l3 (fright_op O1.out.2) (fright_op O2.out.2) (fright_op O3.out.2)
        have hm1 := @covers_match s1 s2 se l1 l2 el (fright_op O1.out.2) (fright_op O2.out.2)
        have hm2 := @covers_match s2 s1 se l2 l1 el (fright_op O2.out.2) (fright_op O1.out.2)
        clear O1 O2 O3 HN1 HN2 HN3 HC1 HC2 HC3
        generalize fCovers s1 l1 s2 l2 = ab at *
        generalize fCovers s2 l2 s1 l1 = ba at *
        generalize fCovers s2 l2 s3 l3 = bc at *
        generalize fCovers s1 l1 s3 l3 = ac at *
        generalize fMatch s1 l1 se el = ma at *
        generalize fMatch s2 l2 se el = mb at *
        have HAB := Lib.hid hab; have HBA := Lib.hid hba; have HBC := Lib.hid hbc; have HAC := Lib.hid hac; have HMA := Lib.hid hma; have HMB := Lib.hid hmb
        have w3 : ab = false ∨ (ab = true ∧ bc = false) ∨ (ab = true ∧ bc = true ∧ ac = true) := by
          cases ab <;> cases bc <;> cases ac <;> simp_all
        have w4 : ab = false ∨ (ab = true ∧ ba = false) ∨ (ab = true ∧ ba = true ∧ ma = mb) := by
          cases ab <;> cases ba <;> cases ma <;> cases mb <;> simp_all
        have W3 := Lib.hid w3; have W4 := Lib.hid w4
        clear hab hba hbc hac hma hmb htr hm1 hm2 w3 w4
        go_upto_region 13 with fail
        go_cut [58] (fun v wx => v = .bool false ∧ Hid ((fun w' => w'.cell? ⟨pa, 0, none⟩ = some (.string ⟨s1.toArray⟩) ∧ w'.cell? ⟨pa, 1, none⟩ = some (.slice a1 l1.length c1) ∧ w'.cell? ⟨pb, 0, none⟩ = some (.string ⟨s2.toArray⟩) ∧ w'.cell? ⟨pb, 1, none⟩ = some (.slice a2 l2.length c2) ∧ w'.cell? ⟨pc, 0, none⟩ = some (.string ⟨s3.toArray⟩) ∧ w'.cell? ⟨pc, 1, none⟩ = some (.slice a3 l3.length c3) ∧ w'.cell? ⟨p9, 0, none⟩ = some (.string ⟨se.toArray⟩) ∧ w'.cell? ⟨p9, 1, none⟩ = some (.slice e0 el.length ecp) ∧ Conds w' a1 l1 ∧ Conds w' a2 l2 ∧ Conds w' a3 l3 ∧ Attrs w' e0 el ∧ Below w.heap.size w w' ∧ pa < w'.heap.size ∧ pb < w'.heap.size ∧ pc < w'.heap.size ∧ p9 < w'.heap.size) wx))
        case first => as_aux_lemma =>
          rcases W3.out with rfl | ⟨rfl, rfl⟩ | ⟨rfl, rfl, rfl⟩
          · obtain ⟨x0, x1, y0, y1, k0, k1, _, _, g1, g2, g3, _, _, la, lb, lc, _⟩ := HS.out
            have G1 := Lib.hid g1; have G2 := Lib.hid g2; have G3 := Lib.hid g3; clear g1 g2 g3
            go_wp2_with fail
            refine (HAB.out _ G1.out G2.out).mono ?_; rintro e wn ⟨rfl, hbn⟩
            go_wp2_with fail
            go_meet
            exact ⟨rfl, Lib.hid (cR_below hbn HS.out)⟩
          · obtain ⟨x0, x1, y0, y1, k0, k1, _, _, g1, g2, g3, _, _, la, lb, lc, _⟩ := HS.out
            have G1 := Lib.hid g1; have G2 := Lib.hid g2; have G3 := Lib.hid g3; clear g1 g2 g3
            go_wp2_with fail
            refine (HAB.out _ G1.out G2.out).mono ?_; rintro e wn ⟨rfl, hbn⟩
            (replace HS := Lib.hid (cR_below hbn HS.out); clear hbn x0 x1 y0 y1 k0 k1 G1 G2 G3 la lb lc; obtain ⟨x0, x1, y0, y1, k0, k1, _, _, g1, g2, g3, _, _, la, lb, lc, _⟩ := HS.out; have G1 := Lib.hid g1; have G2 := Lib.hid g2; have G3 := Lib.hid g3; clear g1 g2 g3)
            go_wp2_with fail
            refine (HBC.out _ G2.out G3.out).mono ?_; rintro e wn ⟨rfl, hbn⟩
            go_wp2_with fail
            go_meet
            exact ⟨rfl, Lib.hid (cR_below hbn HS.out)⟩
          · obtain ⟨x0, x1, y0, y1, k0, k1, _, _, g1, g2, g3, _, _, la, lb, lc, _⟩ := HS.out
            have G1 := Lib.hid g1; have G2 := Lib.hid g2; have G3 := Lib.hid g3; clear g1 g2 g3
            go_wp2_with fail
            refine (HAB.out _ G1.out G2.out).mono ?_; rintro e wn ⟨rfl, hbn⟩
            (replace HS := Lib.hid (cR_below hbn HS.out); clear hbn x0 x1 y0 y1 k0 k1 G1 G2 G3 la lb lc; obtain ⟨x0, x1, y0, y1, k0, k1, _, _, g1, g2, g3, _, _, la, lb, lc, _⟩ := HS.out; have G1 := Lib.hid g1; have G2 := Lib.hid g2; have G3 := Lib.hid g3; clear g1 g2 g3)
            go_wp2_with fail
            refine (HBC.out _ G2.out G3.out).mono ?_; rintro e wn ⟨rfl, hbn⟩
            (replace HS := Lib.hid (cR_below hbn HS.out); clear hbn x0 x1 y0 y1 k0 k1 G1 G2 G3 la lb lc; obtain ⟨x0, x1, y0, y1, k0, k1, _, _, g1, g2, g3, _, _, la, lb, lc, _⟩ := HS.out; have G1 := Lib.hid g1; have G2 := Lib.hid g2; have G3 := Lib.hid g3; clear g1 g2 g3)
            go_wp2_with fail
            refine (HAC.out _ G1.out G3.out).mono ?_; rintro e wn ⟨rfl, hbn⟩
            go_wp2_with fail
            go_meet
            exact ⟨rfl, Lib.hid (cR_below hbn HS.out)⟩
        case rest => as_aux_lemma =>
          obtain ⟨rfl, HS2⟩ := hcut
          clear HS
          rcases W4.out with rfl | ⟨rfl, rfl⟩ | ⟨rfl, rfl, rfl⟩
          · go_wp2_with fail
            refine wp_region_held_drew (S := (fun w' => w'.cell? ⟨pa, 0, none⟩ = some (.string ⟨s1.toArray⟩) ∧ w'.cell? ⟨pa, 1, none⟩ = some (.slice a1 l1.length c1) ∧ w'.cell? ⟨pb, 0, none⟩ = some (.string ⟨s2.toArray⟩) ∧ w'.cell? ⟨pb, 1, none⟩ = some (.slice a2 l2.length c2) ∧ w'.cell? ⟨pc, 0, none⟩ = some (.string ⟨s3.toArray⟩) ∧ w'.cell? ⟨pc, 1, none⟩ = some (.slice a3 l3.length c3) ∧ w'.cell? ⟨p9, 0, none⟩ = some (.string ⟨se.toArray⟩) ∧ w'.cell? ⟨p9, 1, none⟩ = some (.slice e0 el.length ecp) ∧ Conds w' a1 l1 ∧ Conds w' a2 l2 ∧ Conds w' a3 l3 ∧ Attrs w' e0 el ∧ Below w.heap.size w w' ∧ pa < w'.heap.size ∧ pb < w'.heap.size ∧ pc < w'.heap.size ∧ p9 < w'.heap.size)) (by kernel_rfl) ?_ (fun hq0 => ?_)
            · ((try dsimp only); (first | exact cR_below (bdrewN (Below.refl _ _) 1) HS2.out | assumption | exact cR_below (by assumption) (by assumption)))
            first | (refine wpAnyH_take (i := 0) (oi := ?_) (v := ?_) ?_ (by kernel_rfl) (by kernel_rfl) (by kernel_rfl) ?_ (Or.inl ⟨?_, ?_⟩) (by assumption) ?_; rotate_left 2; (· (simp only [List.getElem?_toArray, List.getElem?_cons_zero]; first | done | rfl)); (· exact (fun _ _ _ h => h)); (· rfl); (· (intro w hSw; (try dsimp only at hSw); go_simp; (try with_reducible rfl)))) | (refine wpAnyH_take (i := 0) (oi := ?_) (v := ?_) ?_ (by kernel_rfl) (by kernel_rfl) (by kernel_rfl) ?_ (Or.inr ⟨?_, ?_⟩) (by assumption) ?_; rotate_left 2; (· (simp only [List.getElem?_toArray, List.getElem?_cons_zero]; first | done | rfl)); (· exact (fun _ _ _ h => h)); (· rfl); (· rfl)) | fail
            (try simp only [Act.put, List.setIfInBounds_toArray, List.set_cons_zero, List.set_cons_succ])
            first | (refine wpAnyH_take (i := 1) (oi := ?_) (v := ?_) ?_ (by kernel_rfl) (by kernel_rfl) (by kernel_rfl) ?_ (Or.inl ⟨?_, ?_⟩) (by assumption) ?_; rotate_left 2; (· (simp only [List.getElem?_toArray, List.getElem?_cons_succ, List.getElem?_cons_zero]; first | done | rfl)); (· exact (fun _ _ _ h => h)); (· rfl); (· (intro w hSw; (try dsimp only at hSw); go_simp; (try with_reducible rfl)))) | (refine wpAnyH_take (i := 1) (oi := ?_) (v := ?_) ?_ (by kernel_rfl) (by kernel_rfl) (by kernel_rfl) ?_ (Or.inr ⟨?_, ?_⟩) (by assumption) ?_; rotate_left 2; (· (simp only [List.getElem?_toArray, List.getElem?_cons_succ, List.getElem?_cons_zero]; first | done | rfl)); (· exact (fun _ _ _ h => h)); (· rfl); (· rfl)) | fail
            (try simp only [Act.put, List.setIfInBounds_toArray, List.set_cons_zero, List.set_cons_succ])
            refine wpAnyH_ready (rs := [2]) (by kernel_rfl) (by simp) ?_
            refine AllReadyH.cons (o := ?_) ?_ (fun K hK => ?_) AllReadyH.nil
            rotate_left 1
            · (simp only [List.getElem?_toArray, List.getElem?_cons_succ, List.getElem?_cons_zero]; first | done | rfl)
            go_simp
            first | (refine hK.out _ _ ?_ (fun hq1 => ?_)) | ((first | (go_at_call 41; ((with_reducible refine (HAB.out _ (cR_c1 (by assumption)) (cR_c2 (by assumption))).mono ?_); rintro e w9 ⟨rfl, hb9⟩)) | (go_at_call 41; ((with_reducible refine (HBA.out _ (cR_c1 (by assumption)) (cR_c2 (by assumption))).mono ?_); rintro e w9 ⟨rfl, hb9⟩)) | (go_at_call 38; ((with_reducible refine (HMA.out _ (cR_c1 (by assumption)) (cR_at (by assumption))).mono ?_); rintro e w9 ⟨rfl, hb9⟩)) | (go_at_call 38; ((with_reducible refine (HMB.out _ (cR_c2 (by assumption)) (cR_at (by assumption))).mono ?_); rintro e w9 ⟨rfl, hb9⟩))); refine hK.out _ _ ?_ (fun hq1 => ?_)) | ((first | (go_at_call 41; ((with_reducible refine (HAB.out _ (cR_c1 (by assumption)) (cR_c2 (by assumption))).mono ?_); rintro e w9 ⟨rfl, hb9⟩)) | (go_at_call 41; ((with_reducible refine (HBA.out _ (cR_c1 (by assumption)) (cR_c2 (by assumption))).mono ?_); rintro e w9 ⟨rfl, hb9⟩)) | (go_at_call 38; ((with_reducible refine (HMA.out _ (cR_c1 (by assumption)) (cR_at (by assumption))).mono ?_); rintro e w9 ⟨rfl, hb9⟩)) | (go_at_call 38; ((with_reducible refine (HMB.out _ (cR_c2 (by assumption)) (cR_at (by assumption))).mono ?_); rintro e w9 ⟨rfl, hb9⟩))); go_wp2_with fail; refine hK.out _ _ ?_ (fun hq1 => ?_)) | fail
            · ((try dsimp only); (first | exact cR_below (bdrewN (Below.refl _ _) 1) HS2.out | assumption | exact cR_below (by assumption) (by assumption)))
            clear hK K
            (try simp only [Act.put, List.setIfInBounds_toArray, List.set_cons_zero, List.set_cons_succ])
            clear hq0
            first | (refine wpAnyH_take (i := 3) (oi := ?_) (v := ?_) ?_ (by kernel_rfl) (by kernel_rfl) (by kernel_rfl) ?_ (Or.inl ⟨?_, ?_⟩) (by assumption) ?_; rotate_left 2; (· (simp only [List.getElem?_toArray, List.getElem?_cons_succ, List.getElem?_cons_zero]; first | done | rfl)); (· exact (fun _ _ _ h => h)); (· rfl); (· (intro w hSw; (try dsimp only at hSw); go_simp; (try with_reducible rfl)))) | (refine wpAnyH_take (i := 3) (oi := ?_) (v := ?_) ?_ (by kernel_rfl) (by kernel_rfl) (by kernel_rfl) ?_ (Or.inr ⟨?_, ?_⟩) (by assumption) ?_; rotate_left 2; (· (simp only [List.getElem?_toArray, List.getElem?_cons_succ, List.getElem?_cons_zero]; first | done | rfl)); (· exact (fun _ _ _ h => h)); (· rfl); (· rfl)) | fail
            (try simp only [Act.put, List.setIfInBounds_toArray, List.set_cons_zero, List.set_cons_succ])
            first | (refine wpAnyH_take (i := 4) (oi := ?_) (v := ?_) ?_ (by kernel_rfl) (by kernel_rfl) (by kernel_rfl) ?_ (Or.inl ⟨?_, ?_⟩) (by assumption) ?_; rotate_left 2; (· (simp only [List.getElem?_toArray, List.getElem?_cons_succ, List.getElem?_cons_zero]; first | done | rfl)); (· exact (fun _ _ _ h => h)); (· rfl); (· (intro w hSw; (try dsimp only at hSw); go_simp; (try with_reducible rfl)))) | (refine wpAnyH_take (i := 4) (oi := ?_) (v := ?_) ?_ (by kernel_rfl) (by kernel_rfl) (by kernel_rfl) ?_ (Or.inr ⟨?_, ?_⟩) (by assumption) ?_; rotate_left 2; (· (simp only [List.getElem?_toArray, List.getElem?_cons_succ, List.getElem?_cons_zero]; first | done | rfl)); (· exact (fun _ _ _ h => h)); (· rfl); (· rfl)) | fail
            (try simp only [Act.put, List.setIfInBounds_toArray, List.set_cons_zero, List.set_cons_succ])
            first | (refine wpAnyH_take (i := 5) (oi := ?_) (v := ?_) ?_ (by kernel_rfl) (by kernel_rfl) (by kernel_rfl) ?_ (Or.inr ⟨?_, ?_⟩) (by assumption) ?_; rotate_left 2; (· (simp only [List.getElem?_toArray, List.getElem?_cons_succ, List.getElem?_cons_zero]; first | done | rfl)); (· exact (fun _ _ _ h => h)); (· rfl); (· rfl)) | fail
            (try simp only [Act.put, List.setIfInBounds_toArray, List.set_cons_zero, List.set_cons_succ])
            first | (refine wpAnyH_take (i := 6) (oi := ?_) (v := ?_) ?_ (by kernel_rfl) (by kernel_rfl) (by kernel_rfl) ?_ (Or.inr ⟨?_, ?_⟩) (by assumption) ?_; rotate_left 2; (· (simp only [List.getElem?_toArray, List.getElem?_cons_succ, List.getElem?_cons_zero]; first | done | rfl)); (· exact (fun _ _ _ h => h)); (· rfl); (· rfl)) | fail
            (try simp only [Act.put, List.setIfInBounds_toArray, List.set_cons_zero, List.set_cons_succ])
            first | (refine wpAnyH_take (i := 7) (oi := ?_) (v := ?_) ?_ (by kernel_rfl) (by kernel_rfl) (by kernel_rfl) ?_ (Or.inr ⟨?_, ?_⟩) (by assumption) ?_; rotate_left 2; (· (simp only [List.getElem?_toArray, List.getElem?_cons_succ, List.getElem?_cons_zero]; first | done | rfl)); (· exact (fun _ _ _ h => h)); (· rfl); (· rfl)) | fail
            (try simp only [Act.put, List.setIfInBounds_toArray, List.set_cons_zero, List.set_cons_succ])
            first | (refine wpAnyH_take (i := 8) (oi := ?_) (v := ?_) ?_ (by kernel_rfl) (by kernel_rfl) (by kernel_rfl) ?_ (Or.inr ⟨?_, ?_⟩) (by assumption) ?_; rotate_left 2; (· (simp only [List.getElem?_toArray, List.getElem?_cons_succ, List.getElem?_cons_zero]; first | done | rfl)); (· exact (fun _ _ _ h => h)); (· rfl); (· rfl)) | fail
            (try simp only [Act.put, List.setIfInBounds_toArray, List.set_cons_zero, List.set_cons_succ])
            first | (refine wpAnyH_take (i := 9) (oi := ?_) (v := ?_) ?_ (by kernel_rfl) (by kernel_rfl) (by kernel_rfl) ?_ (Or.inl ⟨?_, ?_⟩) (by assumption) ?_; rotate_left 2; (· (simp only [List.getElem?_toArray, List.getElem?_cons_succ, List.getElem?_cons_zero]; first | done | rfl)); (· exact (fun _ _ _ h => h)); (· rfl); (· (intro w hSw; (try dsimp only at hSw); go_simp; (try with_reducible rfl)))) | (refine wpAnyH_take (i := 9) (oi := ?_) (v := ?_) ?_ (by kernel_rfl) (by kernel_rfl) (by kernel_rfl) ?_ (Or.inr ⟨?_, ?_⟩) (by assumption) ?_; rotate_left 2; (· (simp only [List.getElem?_toArray, List.getElem?_cons_succ, List.getElem?_cons_zero]; first | done | rfl)); (· exact (fun _ _ _ h => h)); (· rfl); (· rfl)) | fail
            (try simp only [Act.put, List.setIfInBounds_toArray, List.set_cons_zero, List.set_cons_succ])
            first | (refine wpAnyH_take (i := 10) (oi := ?_) (v := ?_) ?_ (by kernel_rfl) (by kernel_rfl) (by kernel_rfl) ?_ (Or.inl ⟨?_, ?_⟩) (by assumption) ?_; rotate_left 2; (· (simp only [List.getElem?_toArray, List.getElem?_cons_succ, List.getElem?_cons_zero]; first | done | rfl)); (· exact (fun _ _ _ h => h)); (· rfl); (· (intro w hSw; (try dsimp only at hSw); go_simp; (try with_reducible rfl)))) | (refine wpAnyH_take (i := 10) (oi := ?_) (v := ?_) ?_ (by kernel_rfl) (by kernel_rfl) (by kernel_rfl) ?_ (Or.inr ⟨?_, ?_⟩) (by assumption) ?_; rotate_left 2; (· (simp only [List.getElem?_toArray, List.getElem?_cons_succ, List.getElem?_cons_zero]; first | done | rfl)); (· exact (fun _ _ _ h => h)); (· rfl); (· rfl)) | fail
            (try simp only [Act.put, List.setIfInBounds_toArray, List.set_cons_zero, List.set_cons_succ])
            first | (refine wpAnyH_take (i := 11) (oi := ?_) (v := ?_) ?_ (by kernel_rfl) (by kernel_rfl) (by kernel_rfl) ?_ (Or.inr ⟨?_, ?_⟩) (by assumption) ?_; rotate_left 2; (· (simp only [List.getElem?_toArray, List.getElem?_cons_succ, List.getElem?_cons_zero]; first | done | rfl)); (· exact (fun _ _ _ h => h)); (· rfl); (· rfl)) | fail
            (try simp only [Act.put, List.setIfInBounds_toArray, List.set_cons_zero, List.set_cons_succ])
            first | (refine wpAnyH_take (i := 12) (oi := ?_) (v := ?_) ?_ (by kernel_rfl) (by kernel_rfl) (by kernel_rfl) ?_ (Or.inr ⟨?_, ?_⟩) (by assumption) ?_; rotate_left 2; (· (simp only [List.getElem?_toArray, List.getElem?_cons_succ, List.getElem?_cons_zero]; first | done | rfl)); (· exact (fun _ _ _ h => h)); (· rfl); (· rfl)) | fail
            (try simp only [Act.put, List.setIfInBounds_toArray, List.set_cons_zero, List.set_cons_succ])
            first | (refine wpAnyH_take (i := 14) (oi := ?_) (v := ?_) ?_ (by kernel_rfl) (by kernel_rfl) (by kernel_rfl) ?_ (Or.inr ⟨?_, ?_⟩) (by assumption) ?_; rotate_left 2; (· (simp only [List.getElem?_toArray, List.getElem?_cons_succ, List.getElem?_cons_zero]; first | done | rfl)); (· exact (fun _ _ _ h => h)); (· rfl); (· rfl)) | fail
            (try simp only [Act.put, List.setIfInBounds_toArray, List.set_cons_zero, List.set_cons_succ])
            first | (refine wpAnyH_take (i := 15) (oi := ?_) (v := ?_) ?_ (by kernel_rfl) (by kernel_rfl) (by kernel_rfl) ?_ (Or.inr ⟨?_, ?_⟩) (by assumption) ?_; rotate_left 2; (· (simp only [List.getElem?_toArray, List.getElem?_cons_succ, List.getElem?_cons_zero]; first | done | rfl)); (· exact (fun _ _ _ h => h)); (· rfl); (· rfl)) | fail
            (try simp only [Act.put, List.setIfInBounds_toArray, List.set_cons_zero, List.set_cons_succ])
            first | (refine wpAnyH_take (i := 13) (oi := ?_) (v := ?_) ?_ (by kernel_rfl) (by kernel_rfl) (by kernel_rfl) ?_ (Or.inr ⟨?_, ?_⟩) (by assumption) ?_; rotate_left 2; (· (simp only [List.getElem?_toArray, List.getElem?_cons_succ, List.getElem?_cons_zero]; first | done | rfl)); (· exact (fun _ _ _ h => h)); (· rfl); (· rfl)) | fail
            (try simp only [Act.put, List.setIfInBounds_toArray, List.set_cons_zero, List.set_cons_succ])
            first | (refine wpAnyH_take (i := 16) (oi := ?_) (v := ?_) ?_ (by kernel_rfl) (by kernel_rfl) (by kernel_rfl) ?_ (Or.inr ⟨?_, ?_⟩) (by assumption) ?_; rotate_left 2; (· (simp only [List.getElem?_toArray, List.getElem?_cons_succ, List.getElem?_cons_zero]; first | done | rfl)); (· exact (fun _ _ _ h => h)); (· rfl); (· rfl)) | fail
            (try simp only [Act.put, List.setIfInBounds_toArray, List.set_cons_zero, List.set_cons_succ])
            first | (refine wpAnyH_take (i := 17) (oi := ?_) (v := ?_) ?_ (by kernel_rfl) (by kernel_rfl) (by kernel_rfl) ?_ (Or.inr ⟨?_, ?_⟩) (by assumption) ?_; rotate_left 2; (· (simp only [List.getElem?_toArray, List.getElem?_cons_succ, List.getElem?_cons_zero]; first | done | rfl)); (· exact (fun _ _ _ h => h)); (· rfl); (· rfl)) | fail
            (try simp only [Act.put, List.setIfInBounds_toArray, List.set_cons_zero, List.set_cons_succ])
            first | (refine wpAnyH_take (i := 18) (oi := ?_) (v := ?_) ?_ (by kernel_rfl) (by kernel_rfl) (by kernel_rfl) ?_ (Or.inl ⟨?_, ?_⟩) (by assumption) ?_; rotate_left 2; (· (simp only [List.getElem?_toArray, List.getElem?_cons_succ, List.getElem?_cons_zero]; first | done | rfl)); (· exact (fun _ _ _ h => h)); (· rfl); (· (intro w hSw; (try dsimp only at hSw); go_simp; (try with_reducible rfl)))) | (refine wpAnyH_take (i := 18) (oi := ?_) (v := ?_) ?_ (by kernel_rfl) (by kernel_rfl) (by kernel_rfl) ?_ (Or.inr ⟨?_, ?_⟩) (by assumption) ?_; rotate_left 2; (· (simp only [List.getElem?_toArray, List.getElem?_cons_succ, List.getElem?_cons_zero]; first | done | rfl)); (· exact (fun _ _ _ h => h)); (· rfl); (· rfl)) | fail
            (try simp only [Act.put, List.setIfInBounds_toArray, List.set_cons_zero, List.set_cons_succ])
            first | (refine wpAnyH_take (i := 19) (oi := ?_) (v := ?_) ?_ (by kernel_rfl) (by kernel_rfl) (by kernel_rfl) ?_ (Or.inl ⟨?_, ?_⟩) (by assumption) ?_; rotate_left 2; (· (simp only [List.getElem?_toArray, List.getElem?_cons_succ, List.getElem?_cons_zero]; first | done | rfl)); (· exact (fun _ _ _ h => h)); (· rfl); (· (intro w hSw; (try dsimp only at hSw); go_simp; (try with_reducible rfl)))) | (refine wpAnyH_take (i := 19) (oi := ?_) (v := ?_) ?_ (by kernel_rfl) (by kernel_rfl) (by kernel_rfl) ?_ (Or.inr ⟨?_, ?_⟩) (by assumption) ?_; rotate_left 2; (· (simp only [List.getElem?_toArray, List.getElem?_cons_succ, List.getElem?_cons_zero]; first | done | rfl)); (· exact (fun _ _ _ h => h)); (· rfl); (· rfl)) | fail
            (try simp only [Act.put, List.setIfInBounds_toArray, List.set_cons_zero, List.set_cons_succ])
            refine wpAnyH_done (by kernel_rfl) ?_ _
            go_wp2_with fail
            go_ret
            exact ⟨rfl, cR_own (by assumption)⟩
          · go_wp2_with fail
            refine wp_region_held_drew (S := (fun w' => w'.cell? ⟨pa, 0, none⟩ = some (.string ⟨s1.toArray⟩) ∧ w'.cell? ⟨pa, 1, none⟩ = some (.slice a1 l1.length c1) ∧ w'.cell? ⟨pb, 0, none⟩ = some (.string ⟨s2.toArray⟩) ∧ w'.cell? ⟨pb, 1, none⟩ = some (.slice a2 l2.length c2) ∧ w'.cell? ⟨pc, 0, none⟩ = some (.string ⟨s3.toArray⟩) ∧ w'.cell? ⟨pc, 1, none⟩ = some (.slice a3 l3.length c3) ∧ w'.cell? ⟨p9, 0, none⟩ = some (.string ⟨se.toArray⟩) ∧ w'.cell? ⟨p9, 1, none⟩ = some (.slice e0 el.length ecp) ∧ Conds w' a1 l1 ∧ Conds w' a2 l2 ∧ Conds w' a3 l3 ∧ Attrs w' e0 el ∧ Below w.heap.size w w' ∧ pa < w'.heap.size ∧ pb < w'.heap.size ∧ pc < w'.heap.size ∧ p9 < w'.heap.size)) (by kernel_rfl) ?_ (fun hq0 => ?_)
            · ((try dsimp only); (first | exact cR_below (bdrewN (Below.refl _ _) 1) HS2.out | assumption | exact cR_below (by assumption) (by assumption)))
            first | (refine wpAnyH_take (i := 0) (oi := ?_) (v := ?_) ?_ (by kernel_rfl) (by kernel_rfl) (by kernel_rfl) ?_ (Or.inl ⟨?_, ?_⟩) (by assumption) ?_; rotate_left 2; (· (simp only [List.getElem?_toArray, List.getElem?_cons_zero]; first | done | rfl)); (· exact (fun _ _ _ h => h)); (· rfl); (· (intro w hSw; (try dsimp only at hSw); go_simp; (try with_reducible rfl)))) | (refine wpAnyH_take (i := 0) (oi := ?_) (v := ?_) ?_ (by kernel_rfl) (by kernel_rfl) (by kernel_rfl) ?_ (Or.inr ⟨?_, ?_⟩) (by assumption) ?_; rotate_left 2; (· (simp only [List.getElem?_toArray, List.getElem?_cons_zero]; first | done | rfl)); (· exact (fun _ _ _ h => h)); (· rfl); (· rfl)) | fail
            (try simp only [Act.put, List.setIfInBounds_toArray, List.set_cons_zero, List.set_cons_succ])
            first | (refine wpAnyH_take (i := 1) (oi := ?_) (v := ?_) ?_ (by kernel_rfl) (by kernel_rfl) (by kernel_rfl) ?_ (Or.inl ⟨?_, ?_⟩) (by assumption) ?_; rotate_left 2; (· (simp only [List.getElem?_toArray, List.getElem?_cons_succ, List.getElem?_cons_zero]; first | done | rfl)); (· exact (fun _ _ _ h => h)); (· rfl); (· (intro w hSw; (try dsimp only at hSw); go_simp; (try with_reducible rfl)))) | (refine wpAnyH_take (i := 1) (oi := ?_) (v := ?_) ?_ (by kernel_rfl) (by kernel_rfl) (by kernel_rfl) ?_ (Or.inr ⟨?_, ?_⟩) (by assumption) ?_; rotate_left 2; (· (simp only [List.getElem?_toArray, List.getElem?_cons_succ, List.getElem?_cons_zero]; first | done | rfl)); (· exact (fun _ _ _ h => h)); (· rfl); (· rfl)) | fail
            (try simp only [Act.put, List.setIfInBounds_toArray, List.set_cons_zero, List.set_cons_succ])
            refine wpAnyH_ready (rs := [2]) (by kernel_rfl) (by simp) ?_
            refine AllReadyH.cons (o := ?_) ?_ (fun K hK => ?_) AllReadyH.nil
            rotate_left 1
            · (simp only [List.getElem?_toArray, List.getElem?_cons_succ, List.getElem?_cons_zero]; first | done | rfl)
            go_simp
            first | (refine hK.out _ _ ?_ (fun hq1 => ?_)) | ((first | (go_at_call 41; ((with_reducible refine (HAB.out _ (cR_c1 (by assumption)) (cR_c2 (by assumption))).mono ?_); rintro e w9 ⟨rfl, hb9⟩)) | (go_at_call 41; ((with_reducible refine (HBA.out _ (cR_c1 (by assumption)) (cR_c2 (by assumption))).mono ?_); rintro e w9 ⟨rfl, hb9⟩)) | (go_at_call 38; ((with_reducible refine (HMA.out _ (cR_c1 (by assumption)) (cR_at (by assumption))).mono ?_); rintro e w9 ⟨rfl, hb9⟩)) | (go_at_call 38; ((with_reducible refine (HMB.out _ (cR_c2 (by assumption)) (cR_at (by assumption))).mono ?_); rintro e w9 ⟨rfl, hb9⟩))); refine hK.out _ _ ?_ (fun hq1 => ?_)) | ((first | (go_at_call 41; ((with_reducible refine (HAB.out _ (cR_c1 (by assumption)) (cR_c2 (by assumption))).mono ?_); rintro e w9 ⟨rfl, hb9⟩)) | (go_at_call 41; ((with_reducible refine (HBA.out _ (cR_c1 (by assumption)) (cR_c2 (by assumption))).mono ?_); rintro e w9 ⟨rfl, hb9⟩)) | (go_at_call 38; ((with_reducible refine (HMA.out _ (cR_c1 (by assumption)) (cR_at (by assumption))).mono ?_); rintro e w9 ⟨rfl, hb9⟩)) | (go_at_call 38; ((with_reducible refine (HMB.out _ (cR_c2 (by assumption)) (cR_at (by assumption))).mono ?_); rintro e w9 ⟨rfl, hb9⟩))); go_wp2_with fail; refine hK.out _ _ ?_ (fun hq1 => ?_)) | fail
            · ((try dsimp only); (first | exact cR_below (bdrewN (Below.refl _ _) 1) HS2.out | assumption | exact cR_below (by assumption) (by assumption)))
            clear hK K
            (try simp only [Act.put, List.setIfInBounds_toArray, List.set_cons_zero, List.set_cons_succ])
            clear hq0
            first | (refine wpAnyH_take (i := 3) (oi := ?_) (v := ?_) ?_ (by kernel_rfl) (by kernel_rfl) (by kernel_rfl) ?_ (Or.inl ⟨?_, ?_⟩) (by assumption) ?_; rotate_left 2; (· (simp only [List.getElem?_toArray, List.getElem?_cons_succ, List.getElem?_cons_zero]; first | done | rfl)); (· exact (fun _ _ _ h => h)); (· rfl); (· (intro w hSw; (try dsimp only at hSw); go_simp; (try with_reducible rfl)))) | (refine wpAnyH_take (i := 3) (oi := ?_) (v := ?_) ?_ (by kernel_rfl) (by kernel_rfl) (by kernel_rfl) ?_ (Or.inr ⟨?_, ?_⟩) (by assumption) ?_; rotate_left 2; (· (simp only [List.getElem?_toArray, List.getElem?_cons_succ, List.getElem?_cons_zero]; first | done | rfl)); (· exact (fun _ _ _ h => h)); (· rfl); (· rfl)) | fail
            (try simp only [Act.put, List.setIfInBounds_toArray, List.set_cons_zero, List.set_cons_succ])
            first | (refine wpAnyH_take (i := 4) (oi := ?_) (v := ?_) ?_ (by kernel_rfl) (by kernel_rfl) (by kernel_rfl) ?_ (Or.inl ⟨?_, ?_⟩) (by assumption) ?_; rotate_left 2; (· (simp only [List.getElem?_toArray, List.getElem?_cons_succ, List.getElem?_cons_zero]; first | done | rfl)); (· exact (fun _ _ _ h => h)); (· rfl); (· (intro w hSw; (try dsimp only at hSw); go_simp; (try with_reducible rfl)))) | (refine wpAnyH_take (i := 4) (oi := ?_) (v := ?_) ?_ (by kernel_rfl) (by kernel_rfl) (by kernel_rfl) ?_ (Or.inr ⟨?_, ?_⟩) (by assumption) ?_; rotate_left 2; (· (simp only [List.getElem?_toArray, List.getElem?_cons_succ, List.getElem?_cons_zero]; first | done | rfl)); (· exact (fun _ _ _ h => h)); (· rfl); (· rfl)) | fail
            (try simp only [Act.put, List.setIfInBounds_toArray, List.set_cons_zero, List.set_cons_succ])
            first | (refine wpAnyH_take (i := 5) (oi := ?_) (v := ?_) ?_ (by kernel_rfl) (by kernel_rfl) (by kernel_rfl) ?_ (Or.inl ⟨?_, ?_⟩) (by assumption) ?_; rotate_left 2; (· (simp only [List.getElem?_toArray, List.getElem?_cons_succ, List.getElem?_cons_zero]; first | done | rfl)); (· exact (fun _ _ _ h => h)); (· rfl); (· (intro w hSw; (try dsimp only at hSw); go_simp; (try with_reducible rfl)))) | (refine wpAnyH_take (i := 5) (oi := ?_) (v := ?_) ?_ (by kernel_rfl) (by kernel_rfl) (by kernel_rfl) ?_ (Or.inr ⟨?_, ?_⟩) (by assumption) ?_; rotate_left 2; (· (simp only [List.getElem?_toArray, List.getElem?_cons_succ, List.getElem?_cons_zero]; first | done | rfl)); (· exact (fun _ _ _ h => h)); (· rfl); (· rfl)) | fail
            (try simp only [Act.put, List.setIfInBounds_toArray, List.set_cons_zero, List.set_cons_succ])
            first | (refine wpAnyH_take (i := 6) (oi := ?_) (v := ?_) ?_ (by kernel_rfl) (by kernel_rfl) (by kernel_rfl) ?_ (Or.inl ⟨?_, ?_⟩) (by assumption) ?_; rotate_left 2; (· (simp only [List.getElem?_toArray, List.getElem?_cons_succ, List.getElem?_cons_zero]; first | done | rfl)); (· exact (fun _ _ _ h => h)); (· rfl); (· (intro w hSw; (try dsimp only at hSw); go_simp; (try with_reducible rfl)))) | (refine wpAnyH_take (i := 6) (oi := ?_) (v := ?_) ?_ (by kernel_rfl) (by kernel_rfl) (by kernel_rfl) ?_ (Or.inr ⟨?_, ?_⟩) (by assumption) ?_; rotate_left 2; (· (simp only [List.getElem?_toArray, List.getElem?_cons_succ, List.getElem?_cons_zero]; first | done | rfl)); (· exact (fun _ _ _ h => h)); (· rfl); (· rfl)) | fail
            (try simp only [Act.put, List.setIfInBounds_toArray, List.set_cons_zero, List.set_cons_succ])
            refine wpAnyH_ready (rs := [7]) (by kernel_rfl) (by simp) ?_
            refine AllReadyH.cons (o := ?_) ?_ (fun K hK => ?_) AllReadyH.nil
            rotate_left 1
            · (simp only [List.getElem?_toArray, List.getElem?_cons_succ, List.getElem?_cons_zero]; first | done | rfl)
            go_simp
            first | (refine hK.out _ _ ?_ (fun hq2 => ?_)) | ((first | (go_at_call 41; ((with_reducible refine (HAB.out _ (cR_c1 (by assumption)) (cR_c2 (by assumption))).mono ?_); rintro e w9 ⟨rfl, hb9⟩)) | (go_at_call 41; ((with_reducible refine (HBA.out _ (cR_c1 (by assumption)) (cR_c2 (by assumption))).mono ?_); rintro e w9 ⟨rfl, hb9⟩)) | (go_at_call 38; ((with_reducible refine (HMA.out _ (cR_c1 (by assumption)) (cR_at (by assumption))).mono ?_); rintro e w9 ⟨rfl, hb9⟩)) | (go_at_call 38; ((with_reducible refine (HMB.out _ (cR_c2 (by assumption)) (cR_at (by assumption))).mono ?_); rintro e w9 ⟨rfl, hb9⟩))); refine hK.out _ _ ?_ (fun hq2 => ?_)) | ((first | (go_at_call 41; ((with_reducible refine (HAB.out _ (cR_c1 (by assumption)) (cR_c2 (by assumption))).mono ?_); rintro e w9 ⟨rfl, hb9⟩)) | (go_at_call 41; ((with_reducible refine (HBA.out _ (cR_c1 (by assumption)) (cR_c2 (by assumption))).mono ?_); rintro e w9 ⟨rfl, hb9⟩)) | (go_at_call 38; ((with_reducible refine (HMA.out _ (cR_c1 (by assumption)) (cR_at (by assumption))).mono ?_); rintro e w9 ⟨rfl, hb9⟩)) | (go_at_call 38; ((with_reducible refine (HMB.out _ (cR_c2 (by assumption)) (cR_at (by assumption))).mono ?_); rintro e w9 ⟨rfl, hb9⟩))); go_wp2_with fail; refine hK.out _ _ ?_ (fun hq2 => ?_)) | fail
            · ((try dsimp only); (first | exact cR_below (bdrewN (Below.refl _ _) 1) HS2.out | assumption | exact cR_below (by assumption) (by assumption)))
            clear hK K
            (try simp only [Act.put, List.setIfInBounds_toArray, List.set_cons_zero, List.set_cons_succ])
            clear hq1
            first | (refine wpAnyH_take (i := 8) (oi := ?_) (v := ?_) ?_ (by kernel_rfl) (by kernel_rfl) (by kernel_rfl) ?_ (Or.inl ⟨?_, ?_⟩) (by assumption) ?_; rotate_left 2; (· (simp only [List.getElem?_toArray, List.getElem?_cons_succ, List.getElem?_cons_zero]; first | done | rfl)); (· exact (fun _ _ _ h => h)); (· rfl); (· (intro w hSw; (try dsimp only at hSw); go_simp; (try with_reducible rfl)))) | (refine wpAnyH_take (i := 8) (oi := ?_) (v := ?_) ?_ (by kernel_rfl) (by kernel_rfl) (by kernel_rfl) ?_ (Or.inr ⟨?_, ?_⟩) (by assumption) ?_; rotate_left 2; (· (simp only [List.getElem?_toArray, List.getElem?_cons_succ, List.getElem?_cons_zero]; first | done | rfl)); (· exact (fun _ _ _ h => h)); (· rfl); (· rfl)) | fail
            (try simp only [Act.put, List.setIfInBounds_toArray, List.set_cons_zero, List.set_cons_succ])
            first | (refine wpAnyH_take (i := 9) (oi := ?_) (v := ?_) ?_ (by kernel_rfl) (by kernel_rfl) (by kernel_rfl) ?_ (Or.inl ⟨?_, ?_⟩) (by assumption) ?_; rotate_left 2; (· (simp only [List.getElem?_toArray, List.getElem?_cons_succ, List.getElem?_cons_zero]; first | done | rfl)); (· exact (fun _ _ _ h => h)); (· rfl); (· (intro w hSw; (try dsimp only at hSw); go_simp; (try with_reducible rfl)))) | (refine wpAnyH_take (i := 9) (oi := ?_) (v := ?_) ?_ (by kernel_rfl) (by kernel_rfl) (by kernel_rfl) ?_ (Or.inr ⟨?_, ?_⟩) (by assumption) ?_; rotate_left 2; (· (simp only [List.getElem?_toArray, List.getElem?_cons_succ, List.getElem?_cons_zero]; first | done | rfl)); (· exact (fun _ _ _ h => h)); (· rfl); (· rfl)) | fail
            (try simp only [Act.put, List.setIfInBounds_toArray, List.set_cons_zero, List.set_cons_succ])
            first | (refine wpAnyH_take (i := 10) (oi := ?_) (v := ?_) ?_ (by kernel_rfl) (by kernel_rfl) (by kernel_rfl) ?_ (Or.inl ⟨?_, ?_⟩) (by assumption) ?_; rotate_left 2; (· (simp only [List.getElem?_toArray, List.getElem?_cons_succ, List.getElem?_cons_zero]; first | done | rfl)); (· exact (fun _ _ _ h => h)); (· rfl); (· (intro w hSw; (try dsimp only at hSw); go_simp; (try with_reducible rfl)))) | (refine wpAnyH_take (i := 10) (oi := ?_) (v := ?_) ?_ (by kernel_rfl) (by kernel_rfl) (by kernel_rfl) ?_ (Or.inr ⟨?_, ?_⟩) (by assumption) ?_; rotate_left 2; (· (simp only [List.getElem?_toArray, List.getElem?_cons_succ, List.getElem?_cons_zero]; first | done | rfl)); (· exact (fun _ _ _ h => h)); (· rfl); (· rfl)) | fail
            (try simp only [Act.put, List.setIfInBounds_toArray, List.set_cons_zero, List.set_cons_succ])
            first | (refine wpAnyH_take (i := 11) (oi := ?_) (v := ?_) ?_ (by kernel_rfl) (by kernel_rfl) (by kernel_rfl) ?_ (Or.inr ⟨?_, ?_⟩) (by assumption) ?_; rotate_left 2; (· (simp only [List.getElem?_toArray, List.getElem?_cons_succ, List.getElem?_cons_zero]; first | done | rfl)); (· exact (fun _ _ _ h => h)); (· rfl); (· rfl)) | fail
            (try simp only [Act.put, List.setIfInBounds_toArray, List.set_cons_zero, List.set_cons_succ])
            first | (refine wpAnyH_take (i := 12) (oi := ?_) (v := ?_) ?_ (by kernel_rfl) (by kernel_rfl) (by kernel_rfl) ?_ (Or.inr ⟨?_, ?_⟩) (by assumption) ?_; rotate_left 2; (· (simp only [List.getElem?_toArray, List.getElem?_cons_succ, List.getElem?_cons_zero]; first | done | rfl)); (· exact (fun _ _ _ h => h)); (· rfl); (· rfl)) | fail
            (try simp only [Act.put, List.setIfInBounds_toArray, List.set_cons_zero, List.set_cons_succ])
            first | (refine wpAnyH_take (i := 14) (oi := ?_) (v := ?_) ?_ (by kernel_rfl) (by kernel_rfl) (by kernel_rfl) ?_ (Or.inr ⟨?_, ?_⟩) (by assumption) ?_; rotate_left 2; (· (simp only [List.getElem?_toArray, List.getElem?_cons_succ, List.getElem?_cons_zero]; first | done | rfl)); (· exact (fun _ _ _ h => h)); (· rfl); (· rfl)) | fail
            (try simp only [Act.put, List.setIfInBounds_toArray, List.set_cons_zero, List.set_cons_succ])
            first | (refine wpAnyH_take (i := 15) (oi := ?_) (v := ?_) ?_ (by kernel_rfl) (by kernel_rfl) (by kernel_rfl) ?_ (Or.inr ⟨?_, ?_⟩) (by assumption) ?_; rotate_left 2; (· (simp only [List.getElem?_toArray, List.getElem?_cons_succ, List.getElem?_cons_zero]; first | done | rfl)); (· exact (fun _ _ _ h => h)); (· rfl); (· rfl)) | fail
            (try simp only [Act.put, List.setIfInBounds_toArray, List.set_cons_zero, List.set_cons_succ])
            first | (refine wpAnyH_take (i := 13) (oi := ?_) (v := ?_) ?_ (by kernel_rfl) (by kernel_rfl) (by kernel_rfl) ?_ (Or.inr ⟨?_, ?_⟩) (by assumption) ?_; rotate_left 2; (· (simp only [List.getElem?_toArray, List.getElem?_cons_succ, List.getElem?_cons_zero]; first | done | rfl)); (· exact (fun _ _ _ h => h)); (· rfl); (· rfl)) | fail
            (try simp only [Act.put, List.setIfInBounds_toArray, List.set_cons_zero, List.set_cons_succ])
            first | (refine wpAnyH_take (i := 16) (oi := ?_) (v := ?_) ?_ (by kernel_rfl) (by kernel_rfl) (by kernel_rfl) ?_ (Or.inr ⟨?_, ?_⟩) (by assumption) ?_; rotate_left 2; (· (simp only [List.getElem?_toArray, List.getElem?_cons_succ, List.getElem?_cons_zero]; first | done | rfl)); (· exact (fun _ _ _ h => h)); (· rfl); (· rfl)) | fail
            (try simp only [Act.put, List.setIfInBounds_toArray, List.set_cons_zero, List.set_cons_succ])
            first | (refine wpAnyH_take (i := 17) (oi := ?_) (v := ?_) ?_ (by kernel_rfl) (by kernel_rfl) (by kernel_rfl) ?_ (Or.inr ⟨?_, ?_⟩) (by assumption) ?_; rotate_left 2; (· (simp only [List.getElem?_toArray, List.getElem?_cons_succ, List.getElem?_cons_zero]; first | done | rfl)); (· exact (fun _ _ _ h => h)); (· rfl); (· rfl)) | fail
            (try simp only [Act.put, List.setIfInBounds_toArray, List.set_cons_zero, List.set_cons_succ])
            first | (refine wpAnyH_take (i := 18) (oi := ?_) (v := ?_) ?_ (by kernel_rfl) (by kernel_rfl) (by kernel_rfl) ?_ (Or.inl ⟨?_, ?_⟩) (by assumption) ?_; rotate_left 2; (· (simp only [List.getElem?_toArray, List.getElem?_cons_succ, List.getElem?_cons_zero]; first | done | rfl)); (· exact (fun _ _ _ h => h)); (· rfl); (· (intro w hSw; (try dsimp only at hSw); go_simp; (try with_reducible rfl)))) | (refine wpAnyH_take (i := 18) (oi := ?_) (v := ?_) ?_ (by kernel_rfl) (by kernel_rfl) (by kernel_rfl) ?_ (Or.inr ⟨?_, ?_⟩) (by assumption) ?_; rotate_left 2; (· (simp only [List.getElem?_toArray, List.getElem?_cons_succ, List.getElem?_cons_zero]; first | done | rfl)); (· exact (fun _ _ _ h => h)); (· rfl); (· rfl)) | fail
            (try simp only [Act.put, List.setIfInBounds_toArray, List.set_cons_zero, List.set_cons_succ])
            first | (refine wpAnyH_take (i := 19) (oi := ?_) (v := ?_) ?_ (by kernel_rfl) (by kernel_rfl) (by kernel_rfl) ?_ (Or.inl ⟨?_, ?_⟩) (by assumption) ?_; rotate_left 2; (· (simp only [List.getElem?_toArray, List.getElem?_cons_succ, List.getElem?_cons_zero]; first | done | rfl)); (· exact (fun _ _ _ h => h)); (· rfl); (· (intro w hSw; (try dsimp only at hSw); go_simp; (try with_reducible rfl)))) | (refine wpAnyH_take (i := 19) (oi := ?_) (v := ?_) ?_ (by kernel_rfl) (by kernel_rfl) (by kernel_rfl) ?_ (Or.inr ⟨?_, ?_⟩) (by assumption) ?_; rotate_left 2; (· (simp only [List.getElem?_toArray, List.getElem?_cons_succ, List.getElem?_cons_zero]; first | done | rfl)); (· exact (fun _ _ _ h => h)); (· rfl); (· rfl)) | fail
            (try simp only [Act.put, List.setIfInBounds_toArray, List.set_cons_zero, List.set_cons_succ])
            refine wpAnyH_done (by kernel_rfl) ?_ _
            go_wp2_with fail
            go_ret
            exact ⟨rfl, cR_own (by assumption)⟩
          · cases ma
            all_goals
              go_wp2_with fail
              refine wp_region_held_drew (S := (fun w' => w'.cell? ⟨pa, 0, none⟩ = some (.string ⟨s1.toArray⟩) ∧ w'.cell? ⟨pa, 1, none⟩ = some (.slice a1 l1.length c1) ∧ w'.cell? ⟨pb, 0, none⟩ = some (.string ⟨s2.toArray⟩) ∧ w'.cell? ⟨pb, 1, none⟩ = some (.slice a2 l2.length c2) ∧ w'.cell? ⟨pc, 0, none⟩ = some (.string ⟨s3.toArray⟩) ∧ w'.cell? ⟨pc, 1, none⟩ = some (.slice a3 l3.length c3) ∧ w'.cell? ⟨p9, 0, none⟩ = some (.string ⟨se.toArray⟩) ∧ w'.cell? ⟨p9, 1, none⟩ = some (.slice e0 el.length ecp) ∧ Conds w' a1 l1 ∧ Conds w' a2 l2 ∧ Conds w' a3 l3 ∧ Attrs w' e0 el ∧ Below w.heap.size w w' ∧ pa < w'.heap.size ∧ pb < w'.heap.size ∧ pc < w'.heap.size ∧ p9 < w'.heap.size)) (by kernel_rfl) ?_ (fun hq0 => ?_)
              · ((try dsimp only); (first | exact cR_below (bdrewN (Below.refl _ _) 1) HS2.out | assumption | exact cR_below (by assumption) (by assumption)))
              first | (refine wpAnyH_take (i := 0) (oi := ?_) (v := ?_) ?_ (by kernel_rfl) (by kernel_rfl) (by kernel_rfl) ?_ (Or.inl ⟨?_, ?_⟩) (by assumption) ?_; rotate_left 2; (· (simp only [List.getElem?_toArray, List.getElem?_cons_zero]; first | done | rfl)); (· exact (fun _ _ _ h => h)); (· rfl); (· (intro w hSw; (try dsimp only at hSw); go_simp; (try with_reducible rfl)))) | (refine wpAnyH_take (i := 0) (oi := ?_) (v := ?_) ?_ (by kernel_rfl) (by kernel_rfl) (by kernel_rfl) ?_ (Or.inr ⟨?_, ?_⟩) (by assumption) ?_; rotate_left 2; (· (simp only [List.getElem?_toArray, List.getElem?_cons_zero]; first | done | rfl)); (· exact (fun _ _ _ h => h)); (· rfl); (· rfl)) | fail
              (try simp only [Act.put, List.setIfInBounds_toArray, List.set_cons_zero, List.set_cons_succ])
              first | (refine wpAnyH_take (i := 1) (oi := ?_) (v := ?_) ?_ (by kernel_rfl) (by kernel_rfl) (by kernel_rfl) ?_ (Or.inl ⟨?_, ?_⟩) (by assumption) ?_; rotate_left 2; (· (simp only [List.getElem?_toArray, List.getElem?_cons_succ, List.getElem?_cons_zero]; first | done | rfl)); (· exact (fun _ _ _ h => h)); (· rfl); (· (intro w hSw; (try dsimp only at hSw); go_simp; (try with_reducible rfl)))) | (refine wpAnyH_take (i := 1) (oi := ?_) (v := ?_) ?_ (by kernel_rfl) (by kernel_rfl) (by kernel_rfl) ?_ (Or.inr ⟨?_, ?_⟩) (by assumption) ?_; rotate_left 2; (· (simp only [List.getElem?_toArray, List.getElem?_cons_succ, List.getElem?_cons_zero]; first | done | rfl)); (· exact (fun _ _ _ h => h)); (· rfl); (· rfl)) | fail
              (try simp only [Act.put, List.setIfInBounds_toArray, List.set_cons_zero, List.set_cons_succ])
              refine wpAnyH_ready (rs := [2]) (by kernel_rfl) (by simp) ?_
              refine AllReadyH.cons (o := ?_) ?_ (fun K hK => ?_) AllReadyH.nil
              rotate_left 1
              · (simp only [List.getElem?_toArray, List.getElem?_cons_succ, List.getElem?_cons_zero]; first | done | rfl)
              go_simp
              first | (refine hK.out _ _ ?_ (fun hq1 => ?_)) | ((first | (go_at_call 41; ((with_reducible refine (HAB.out _ (cR_c1 (by assumption)) (cR_c2 (by assumption))).mono ?_); rintro e w9 ⟨rfl, hb9⟩)) | (go_at_call 41; ((with_reducible refine (HBA.out _ (cR_c1 (by assumption)) (cR_c2 (by assumption))).mono ?_); rintro e w9 ⟨rfl, hb9⟩)) | (go_at_call 38; ((with_reducible refine (HMA.out _ (cR_c1 (by assumption)) (cR_at (by assumption))).mono ?_); rintro e w9 ⟨rfl, hb9⟩)) | (go_at_call 38; ((with_reducible refine (HMB.out _ (cR_c2 (by assumption)) (cR_at (by assumption))).mono ?_); rintro e w9 ⟨rfl, hb9⟩))); refine hK.out _ _ ?_ (fun hq1 => ?_)) | ((first | (go_at_call 41; ((with_reducible refine (HAB.out _ (cR_c1 (by assumption)) (cR_c2 (by assumption))).mono ?_); rintro e w9 ⟨rfl, hb9⟩)) | (go_at_call 41; ((with_reducible refine (HBA.out _ (cR_c1 (by assumption)) (cR_c2 (by assumption))).mono ?_); rintro e w9 ⟨rfl, hb9⟩)) | (go_at_call 38; ((with_reducible refine (HMA.out _ (cR_c1 (by assumption)) (cR_at (by assumption))).mono ?_); rintro e w9 ⟨rfl, hb9⟩)) | (go_at_call 38; ((with_reducible refine (HMB.out _ (cR_c2 (by assumption)) (cR_at (by assumption))).mono ?_); rintro e w9 ⟨rfl, hb9⟩))); go_wp2_with fail; refine hK.out _ _ ?_ (fun hq1 => ?_)) | fail
              · ((try dsimp only); (first | exact cR_below (bdrewN (Below.refl _ _) 1) HS2.out | assumption | exact cR_below (by assumption) (by assumption)))
              clear hK K
              (try simp only [Act.put, List.setIfInBounds_toArray, List.set_cons_zero, List.set_cons_succ])
              clear hq0
              first | (refine wpAnyH_take (i := 3) (oi := ?_) (v := ?_) ?_ (by kernel_rfl) (by kernel_rfl) (by kernel_rfl) ?_ (Or.inl ⟨?_, ?_⟩) (by assumption) ?_; rotate_left 2; (· (simp only [List.getElem?_toArray, List.getElem?_cons_succ, List.getElem?_cons_zero]; first | done | rfl)); (· exact (fun _ _ _ h => h)); (· rfl); (· (intro w hSw; (try dsimp only at hSw); go_simp; (try with_reducible rfl)))) | (refine wpAnyH_take (i := 3) (oi := ?_) (v := ?_) ?_ (by kernel_rfl) (by kernel_rfl) (by kernel_rfl) ?_ (Or.inr ⟨?_, ?_⟩) (by assumption) ?_; rotate_left 2; (· (simp only [List.getElem?_toArray, List.getElem?_cons_succ, List.getElem?_cons_zero]; first | done | rfl)); (· exact (fun _ _ _ h => h)); (· rfl); (· rfl)) | fail
              (try simp only [Act.put, List.setIfInBounds_toArray, List.set_cons_zero, List.set_cons_succ])
              first | (refine wpAnyH_take (i := 4) (oi := ?_) (v := ?_) ?_ (by kernel_rfl) (by kernel_rfl) (by kernel_rfl) ?_ (Or.inl ⟨?_, ?_⟩) (by assumption) ?_; rotate_left 2; (· (simp only [List.getElem?_toArray, List.getElem?_cons_succ, List.getElem?_cons_zero]; first | done | rfl)); (· exact (fun _ _ _ h => h)); (· rfl); (· (intro w hSw; (try dsimp only at hSw); go_simp; (try with_reducible rfl)))) | (refine wpAnyH_take (i := 4) (oi := ?_) (v := ?_) ?_ (by kernel_rfl) (by kernel_rfl) (by kernel_rfl) ?_ (Or.inr ⟨?_, ?_⟩) (by assumption) ?_; rotate_left 2; (· (simp only [List.getElem?_toArray, List.getElem?_cons_succ, List.getElem?_cons_zero]; first | done | rfl)); (· exact (fun _ _ _ h => h)); (· rfl); (· rfl)) | fail
              (try simp only [Act.put, List.setIfInBounds_toArray, List.set_cons_zero, List.set_cons_succ])
              first | (refine wpAnyH_take (i := 5) (oi := ?_) (v := ?_) ?_ (by kernel_rfl) (by kernel_rfl) (by kernel_rfl) ?_ (Or.inl ⟨?_, ?_⟩) (by assumption) ?_; rotate_left 2; (· (simp only [List.getElem?_toArray, List.getElem?_cons_succ, List.getElem?_cons_zero]; first | done | rfl)); (· exact (fun _ _ _ h => h)); (· rfl); (· (intro w hSw; (try dsimp only at hSw); go_simp; (try with_reducible rfl)))) | (refine wpAnyH_take (i := 5) (oi := ?_) (v := ?_) ?_ (by kernel_rfl) (by kernel_rfl) (by kernel_rfl) ?_ (Or.inr ⟨?_, ?_⟩) (by assumption) ?_; rotate_left 2; (· (simp only [List.getElem?_toArray, List.getElem?_cons_succ, List.getElem?_cons_zero]; first | done | rfl)); (· exact (fun _ _ _ h => h)); (· rfl); (· rfl)) | fail
              (try simp only [Act.put, List.setIfInBounds_toArray, List.set_cons_zero, List.set_cons_succ])
              first | (refine wpAnyH_take (i := 6) (oi := ?_) (v := ?_) ?_ (by kernel_rfl) (by kernel_rfl) (by kernel_rfl) ?_ (Or.inl ⟨?_, ?_⟩) (by assumption) ?_; rotate_left 2; (· (simp only [List.getElem?_toArray, List.getElem?_cons_succ, List.getElem?_cons_zero]; first | done | rfl)); (· exact (fun _ _ _ h => h)); (· rfl); (· (intro w hSw; (try dsimp only at hSw); go_simp; (try with_reducible rfl)))) | (refine wpAnyH_take (i := 6) (oi := ?_) (v := ?_) ?_ (by kernel_rfl) (by kernel_rfl) (by kernel_rfl) ?_ (Or.inr ⟨?_, ?_⟩) (by assumption) ?_; rotate_left 2; (· (simp only [List.getElem?_toArray, List.getElem?_cons_succ, List.getElem?_cons_zero]; first | done | rfl)); (· exact (fun _ _ _ h => h)); (· rfl); (· rfl)) | fail
              (try simp only [Act.put, List.setIfInBounds_toArray, List.set_cons_zero, List.set_cons_succ])
              refine wpAnyH_ready (rs := [7]) (by kernel_rfl) (by simp) ?_
              refine AllReadyH.cons (o := ?_) ?_ (fun K hK => ?_) AllReadyH.nil
              rotate_left 1
              · (simp only [List.getElem?_toArray, List.getElem?_cons_succ, List.getElem?_cons_zero]; first | done | rfl)
              go_simp
              first | (refine hK.out _ _ ?_ (fun hq2 => ?_)) | ((first | (go_at_call 41; ((with_reducible refine (HAB.out _ (cR_c1 (by assumption)) (cR_c2 (by assumption))).mono ?_); rintro e w9 ⟨rfl, hb9⟩)) | (go_at_call 41; ((with_reducible refine (HBA.out _ (cR_c1 (by assumption)) (cR_c2 (by assumption))).mono ?_); rintro e w9 ⟨rfl, hb9⟩)) | (go_at_call 38; ((with_reducible refine (HMA.out _ (cR_c1 (by assumption)) (cR_at (by assumption))).mono ?_); rintro e w9 ⟨rfl, hb9⟩)) | (go_at_call 38; ((with_reducible refine (HMB.out _ (cR_c2 (by assumption)) (cR_at (by assumption))).mono ?_); rintro e w9 ⟨rfl, hb9⟩))); refine hK.out _ _ ?_ (fun hq2 => ?_)) | ((first | (go_at_call 41; ((with_reducible refine (HAB.out _ (cR_c1 (by assumption)) (cR_c2 (by assumption))).mono ?_); rintro e w9 ⟨rfl, hb9⟩)) | (go_at_call 41; ((with_reducible refine (HBA.out _ (cR_c1 (by assumption)) (cR_c2 (by assumption))).mono ?_); rintro e w9 ⟨rfl, hb9⟩)) | (go_at_call 38; ((with_reducible refine (HMA.out _ (cR_c1 (by assumption)) (cR_at (by assumption))).mono ?_); rintro e w9 ⟨rfl, hb9⟩)) | (go_at_call 38; ((with_reducible refine (HMB.out _ (cR_c2 (by assumption)) (cR_at (by assumption))).mono ?_); rintro e w9 ⟨rfl, hb9⟩))); go_wp2_with fail; refine hK.out _ _ ?_ (fun hq2 => ?_)) | fail
              · ((try dsimp only); (first | exact cR_below (bdrewN (Below.refl _ _) 1) HS2.out | assumption | exact cR_below (by assumption) (by assumption)))
              clear hK K
              (try simp only [Act.put, List.setIfInBounds_toArray, List.set_cons_zero, List.set_cons_succ])
              clear hq1
              first | (refine wpAnyH_take (i := 8) (oi := ?_) (v := ?_) ?_ (by kernel_rfl) (by kernel_rfl) (by kernel_rfl) ?_ (Or.inl ⟨?_, ?_⟩) (by assumption) ?_; rotate_left 2; (· (simp only [List.getElem?_toArray, List.getElem?_cons_succ, List.getElem?_cons_zero]; first | done | rfl)); (· exact (fun _ _ _ h => h)); (· rfl); (· (intro w hSw; (try dsimp only at hSw); go_simp; (try with_reducible rfl)))) | (refine wpAnyH_take (i := 8) (oi := ?_) (v := ?_) ?_ (by kernel_rfl) (by kernel_rfl) (by kernel_rfl) ?_ (Or.inr ⟨?_, ?_⟩) (by assumption) ?_; rotate_left 2; (· (simp only [List.getElem?_toArray, List.getElem?_cons_succ, List.getElem?_cons_zero]; first | done | rfl)); (· exact (fun _ _ _ h => h)); (· rfl); (· rfl)) | fail
              (try simp only [Act.put, List.setIfInBounds_toArray, List.set_cons_zero, List.set_cons_succ])
              first | (refine wpAnyH_take (i := 9) (oi := ?_) (v := ?_) ?_ (by kernel_rfl) (by kernel_rfl) (by kernel_rfl) ?_ (Or.inl ⟨?_, ?_⟩) (by assumption) ?_; rotate_left 2; (· (simp only [List.getElem?_toArray, List.getElem?_cons_succ, List.getElem?_cons_zero]; first | done | rfl)); (· exact (fun _ _ _ h => h)); (· rfl); (· (intro w hSw; (try dsimp only at hSw); go_simp; (try with_reducible rfl)))) | (refine wpAnyH_take (i := 9) (oi := ?_) (v := ?_) ?_ (by kernel_rfl) (by kernel_rfl) (by kernel_rfl) ?_ (Or.inr ⟨?_, ?_⟩) (by assumption) ?_; rotate_left 2; (· (simp only [List.getElem?_toArray, List.getElem?_cons_succ, List.getElem?_cons_zero]; first | done | rfl)); (· exact (fun _ _ _ h => h)); (· rfl); (· rfl)) | fail
              (try simp only [Act.put, List.setIfInBounds_toArray, List.set_cons_zero, List.set_cons_succ])
              first | (refine wpAnyH_take (i := 10) (oi := ?_) (v := ?_) ?_ (by kernel_rfl) (by kernel_rfl) (by kernel_rfl) ?_ (Or.inl ⟨?_, ?_⟩) (by assumption) ?_; rotate_left 2; (· (simp only [List.getElem?_toArray, List.getElem?_cons_succ, List.getElem?_cons_zero]; first | done | rfl)); (· exact (fun _ _ _ h => h)); (· rfl); (· (intro w hSw; (try dsimp only at hSw); go_simp; (try with_reducible rfl)))) | (refine wpAnyH_take (i := 10) (oi := ?_) (v := ?_) ?_ (by kernel_rfl) (by kernel_rfl) (by kernel_rfl) ?_ (Or.inr ⟨?_, ?_⟩) (by assumption) ?_; rotate_left 2; (· (simp only [List.getElem?_toArray, List.getElem?_cons_succ, List.getElem?_cons_zero]; first | done | rfl)); (· exact (fun _ _ _ h => h)); (· rfl); (· rfl)) | fail
              (try simp only [Act.put, List.setIfInBounds_toArray, List.set_cons_zero, List.set_cons_succ])
              first | (refine wpAnyH_take (i := 11) (oi := ?_) (v := ?_) ?_ (by kernel_rfl) (by kernel_rfl) (by kernel_rfl) ?_ (Or.inl ⟨?_, ?_⟩) (by assumption) ?_; rotate_left 2; (· (simp only [List.getElem?_toArray, List.getElem?_cons_succ, List.getElem?_cons_zero]; first | done | rfl)); (· exact (fun _ _ _ h => h)); (· rfl); (· (intro w hSw; (try dsimp only at hSw); go_simp; (try with_reducible rfl)))) | (refine wpAnyH_take (i := 11) (oi := ?_) (v := ?_) ?_ (by kernel_rfl) (by kernel_rfl) (by kernel_rfl) ?_ (Or.inr ⟨?_, ?_⟩) (by assumption) ?_; rotate_left 2; (· (simp only [List.getElem?_toArray, List.getElem?_cons_succ, List.getElem?_cons_zero]; first | done | rfl)); (· exact (fun _ _ _ h => h)); (· rfl); (· rfl)) | fail
              (try simp only [Act.put, List.setIfInBounds_toArray, List.set_cons_zero, List.set_cons_succ])
              first | (refine wpAnyH_take (i := 12) (oi := ?_) (v := ?_) ?_ (by kernel_rfl) (by kernel_rfl) (by kernel_rfl) ?_ (Or.inl ⟨?_, ?_⟩) (by assumption) ?_; rotate_left 2; (· (simp only [List.getElem?_toArray, List.getElem?_cons_succ, List.getElem?_cons_zero]; first | done | rfl)); (· exact (fun _ _ _ h => h)); (· rfl); (· (intro w hSw; (try dsimp only at hSw); go_simp; (try with_reducible rfl)))) | (refine wpAnyH_take (i := 12) (oi := ?_) (v := ?_) ?_ (by kernel_rfl) (by kernel_rfl) (by kernel_rfl) ?_ (Or.inr ⟨?_, ?_⟩) (by assumption) ?_; rotate_left 2; (· (simp only [List.getElem?_toArray, List.getElem?_cons_succ, List.getElem?_cons_zero]; first | done | rfl)); (· exact (fun _ _ _ h => h)); (· rfl); (· rfl)) | fail
              (try simp only [Act.put, List.setIfInBounds_toArray, List.set_cons_zero, List.set_cons_succ])
              first | (refine wpAnyH_take (i := 14) (oi := ?_) (v := ?_) ?_ (by kernel_rfl) (by kernel_rfl) (by kernel_rfl) ?_ (Or.inl ⟨?_, ?_⟩) (by assumption) ?_; rotate_left 2; (· (simp only [List.getElem?_toArray, List.getElem?_cons_succ, List.getElem?_cons_zero]; first | done | rfl)); (· exact (fun _ _ _ h => h)); (· rfl); (· (intro w hSw; (try dsimp only at hSw); go_simp; (try with_reducible rfl)))) | (refine wpAnyH_take (i := 14) (oi := ?_) (v := ?_) ?_ (by kernel_rfl) (by kernel_rfl) (by kernel_rfl) ?_ (Or.inr ⟨?_, ?_⟩) (by assumption) ?_; rotate_left 2; (· (simp only [List.getElem?_toArray, List.getElem?_cons_succ, List.getElem?_cons_zero]; first | done | rfl)); (· exact (fun _ _ _ h => h)); (· rfl); (· rfl)) | fail
              (try simp only [Act.put, List.setIfInBounds_toArray, List.set_cons_zero, List.set_cons_succ])
              first | (refine wpAnyH_take (i := 15) (oi := ?_) (v := ?_) ?_ (by kernel_rfl) (by kernel_rfl) (by kernel_rfl) ?_ (Or.inl ⟨?_, ?_⟩) (by assumption) ?_; rotate_left 2; (· (simp only [List.getElem?_toArray, List.getElem?_cons_succ, List.getElem?_cons_zero]; first | done | rfl)); (· exact (fun _ _ _ h => h)); (· rfl); (· (intro w hSw; (try dsimp only at hSw); go_simp; (try with_reducible rfl)))) | (refine wpAnyH_take (i := 15) (oi := ?_) (v := ?_) ?_ (by kernel_rfl) (by kernel_rfl) (by kernel_rfl) ?_ (Or.inr ⟨?_, ?_⟩) (by assumption) ?_; rotate_left 2; (· (simp only [List.getElem?_toArray, List.getElem?_cons_succ, List.getElem?_cons_zero]; first | done | rfl)); (· exact (fun _ _ _ h => h)); (· rfl); (· rfl)) | fail
              (try simp only [Act.put, List.setIfInBounds_toArray, List.set_cons_zero, List.set_cons_succ])
              refine wpAnyH_ready (rs := [13]) (by kernel_rfl) (by simp) ?_
              refine AllReadyH.cons (o := ?_) ?_ (fun K hK => ?_) AllReadyH.nil
              rotate_left 1
              · (simp only [List.getElem?_toArray, List.getElem?_cons_succ, List.getElem?_cons_zero]; first | done | rfl)
              go_simp
              first | (refine hK.out _ _ ?_ (fun hq3 => ?_)) | ((first | (go_at_call 41; ((with_reducible refine (HAB.out _ (cR_c1 (by assumption)) (cR_c2 (by assumption))).mono ?_); rintro e w9 ⟨rfl, hb9⟩)) | (go_at_call 41; ((with_reducible refine (HBA.out _ (cR_c1 (by assumption)) (cR_c2 (by assumption))).mono ?_); rintro e w9 ⟨rfl, hb9⟩)) | (go_at_call 38; ((with_reducible refine (HMA.out _ (cR_c1 (by assumption)) (cR_at (by assumption))).mono ?_); rintro e w9 ⟨rfl, hb9⟩)) | (go_at_call 38; ((with_reducible refine (HMB.out _ (cR_c2 (by assumption)) (cR_at (by assumption))).mono ?_); rintro e w9 ⟨rfl, hb9⟩))); refine hK.out _ _ ?_ (fun hq3 => ?_)) | ((first | (go_at_call 41; ((with_reducible refine (HAB.out _ (cR_c1 (by assumption)) (cR_c2 (by assumption))).mono ?_); rintro e w9 ⟨rfl, hb9⟩)) | (go_at_call 41; ((with_reducible refine (HBA.out _ (cR_c1 (by assumption)) (cR_c2 (by assumption))).mono ?_); rintro e w9 ⟨rfl, hb9⟩)) | (go_at_call 38; ((with_reducible refine (HMA.out _ (cR_c1 (by assumption)) (cR_at (by assumption))).mono ?_); rintro e w9 ⟨rfl, hb9⟩)) | (go_at_call 38; ((with_reducible refine (HMB.out _ (cR_c2 (by assumption)) (cR_at (by assumption))).mono ?_); rintro e w9 ⟨rfl, hb9⟩))); go_wp2_with fail; refine hK.out _ _ ?_ (fun hq3 => ?_)) | fail
              · ((try dsimp only); (first | exact cR_below (bdrewN (Below.refl _ _) 1) HS2.out | assumption | exact cR_below (by assumption) (by assumption)))
              clear hK K
              (try simp only [Act.put, List.setIfInBounds_toArray, List.set_cons_zero, List.set_cons_succ])
              clear hq2
              refine wpAnyH_ready (rs := [16]) (by kernel_rfl) (by simp) ?_
              refine AllReadyH.cons (o := ?_) ?_ (fun K hK => ?_) AllReadyH.nil
              rotate_left 1
              · (simp only [List.getElem?_toArray, List.getElem?_cons_succ, List.getElem?_cons_zero]; first | done | rfl)
              go_simp
              first | (refine hK.out _ _ ?_ (fun hq4 => ?_)) | ((first | (go_at_call 41; ((with_reducible refine (HAB.out _ (cR_c1 (by assumption)) (cR_c2 (by assumption))).mono ?_); rintro e w9 ⟨rfl, hb9⟩)) | (go_at_call 41; ((with_reducible refine (HBA.out _ (cR_c1 (by assumption)) (cR_c2 (by assumption))).mono ?_); rintro e w9 ⟨rfl, hb9⟩)) | (go_at_call 38; ((with_reducible refine (HMA.out _ (cR_c1 (by assumption)) (cR_at (by assumption))).mono ?_); rintro e w9 ⟨rfl, hb9⟩)) | (go_at_call 38; ((with_reducible refine (HMB.out _ (cR_c2 (by assumption)) (cR_at (by assumption))).mono ?_); rintro e w9 ⟨rfl, hb9⟩))); refine hK.out _ _ ?_ (fun hq4 => ?_)) | ((first | (go_at_call 41; ((with_reducible refine (HAB.out _ (cR_c1 (by assumption)) (cR_c2 (by assumption))).mono ?_); rintro e w9 ⟨rfl, hb9⟩)) | (go_at_call 41; ((with_reducible refine (HBA.out _ (cR_c1 (by assumption)) (cR_c2 (by assumption))).mono ?_); rintro e w9 ⟨rfl, hb9⟩)) | (go_at_call 38; ((with_reducible refine (HMA.out _ (cR_c1 (by assumption)) (cR_at (by assumption))).mono ?_); rintro e w9 ⟨rfl, hb9⟩)) | (go_at_call 38; ((with_reducible refine (HMB.out _ (cR_c2 (by assumption)) (cR_at (by assumption))).mono ?_); rintro e w9 ⟨rfl, hb9⟩))); go_wp2_with fail; refine hK.out _ _ ?_ (fun hq4 => ?_)) | fail
              · ((try dsimp only); (first | exact cR_below (bdrewN (Below.refl _ _) 1) HS2.out | assumption | exact cR_below (by assumption) (by assumption)))
              clear hK K
              (try simp only [Act.put, List.setIfInBounds_toArray, List.set_cons_zero, List.set_cons_succ])
              clear hq3
              first | (refine wpAnyH_take (i := 17) (oi := ?_) (v := ?_) ?_ (by kernel_rfl) (by kernel_rfl) (by kernel_rfl) ?_ (Or.inl ⟨?_, ?_⟩) (by assumption) ?_; rotate_left 2; (· (simp only [List.getElem?_toArray, List.getElem?_cons_succ, List.getElem?_cons_zero]; first | done | rfl)); (· exact (fun _ _ _ h => h)); (· rfl); (· (intro w hSw; (try dsimp only at hSw); go_simp; (try with_reducible rfl)))) | (refine wpAnyH_take (i := 17) (oi := ?_) (v := ?_) ?_ (by kernel_rfl) (by kernel_rfl) (by kernel_rfl) ?_ (Or.inr ⟨?_, ?_⟩) (by assumption) ?_; rotate_left 2; (· (simp only [List.getElem?_toArray, List.getElem?_cons_succ, List.getElem?_cons_zero]; first | done | rfl)); (· exact (fun _ _ _ h => h)); (· rfl); (· rfl)) | fail
              (try simp only [Act.put, List.setIfInBounds_toArray, List.set_cons_zero, List.set_cons_succ])
              first | (refine wpAnyH_take (i := 18) (oi := ?_) (v := ?_) ?_ (by kernel_rfl) (by kernel_rfl) (by kernel_rfl) ?_ (Or.inl ⟨?_, ?_⟩) (by assumption) ?_; rotate_left 2; (· (simp only [List.getElem?_toArray, List.getElem?_cons_succ, List.getElem?_cons_zero]; first | done | rfl)); (· exact (fun _ _ _ h => h)); (· rfl); (· (intro w hSw; (try dsimp only at hSw); go_simp; (try with_reducible rfl)))) | (refine wpAnyH_take (i := 18) (oi := ?_) (v := ?_) ?_ (by kernel_rfl) (by kernel_rfl) (by kernel_rfl) ?_ (Or.inr ⟨?_, ?_⟩) (by assumption) ?_; rotate_left 2; (· (simp only [List.getElem?_toArray, List.getElem?_cons_succ, List.getElem?_cons_zero]; first | done | rfl)); (· exact (fun _ _ _ h => h)); (· rfl); (· rfl)) | fail
              (try simp only [Act.put, List.setIfInBounds_toArray, List.set_cons_zero, List.set_cons_succ])
              first | (refine wpAnyH_take (i := 19) (oi := ?_) (v := ?_) ?_ (by kernel_rfl) (by kernel_rfl) (by kernel_rfl) ?_ (Or.inl ⟨?_, ?_⟩) (by assumption) ?_; rotate_left 2; (· (simp only [List.getElem?_toArray, List.getElem?_cons_succ, List.getElem?_cons_zero]; first | done | rfl)); (· exact (fun _ _ _ h => h)); (· rfl); (· (intro w hSw; (try dsimp only at hSw); go_simp; (try with_reducible rfl)))) | (refine wpAnyH_take (i := 19) (oi := ?_) (v := ?_) ?_ (by kernel_rfl) (by kernel_rfl) (by kernel_rfl) ?_ (Or.inr ⟨?_, ?_⟩) (by assumption) ?_; rotate_left 2; (· (simp only [List.getElem?_toArray, List.getElem?_cons_succ, List.getElem?_cons_zero]; first | done | rfl)); (· exact (fun _ _ _ h => h)); (· rfl); (· rfl)) | fail
              (try simp only [Act.put, List.setIfInBounds_toArray, List.set_cons_zero, List.set_cons_succ])
              refine wpAnyH_done (by kernel_rfl) ?_ _
              go_wp2_with fail
              go_ret
              exact ⟨rfl, cR_own (by assumption)⟩
end Go.Proofs.YtdggofleokjmcaaGreatDoor.Val
