/- THE WALKS OF package filter: ContainsFunc at conditions, Void, Match, Right, Covers. -/
import Derived.Test.YtdggofleokjmcaaGreatDoorFilFn
import Derived.Test.YtdggofleokjmcaaGreatDoorConds
import Derived.Test.YtdggofleokjmcaaGreatDoorScL
import Derived.Test.YtdggofleokjmcaaGreatDoorImpl
namespace Go.Proofs.YtdggofleokjmcaaGreatDoor.Val
open Go.RowKit Flt
attribute [local go_sem] run_store_flt
theorem any_take_succ (p : C → Bool) (l : List C) (k : Nat) (h : k < l.length) : (l.take (k + 1)).any p = ((l.take k).any p || p l[k]) := by
  rw [List.take_succ_eq_append_getElem h]; simp only [List.any_append, List.any_cons, List.any_nil, Bool.or_false]
theorem any_hit (p : C → Bool) (l : List C) (k : Nat) (h : k < l.length) (hk : p l[k] = true) : l.any p = true := List.any_eq_true.2 ⟨_, List.getElem_mem h, hk⟩
theorem all_take_succ' (p : C → Bool) (l : List C) (k : Nat) (h : k < l.length) : (l.take (k + 1)).all p = ((l.take k).all p && p l[k]) := by
  rw [List.take_succ_eq_append_getElem h]; simp only [List.all_append, List.all_cons, List.all_nil, Bool.and_true]
theorem all_miss (p : C → Bool) (l : List C) (k : Nat) (h : k < l.length) (hk : p l[k] = false) : l.all p = false := by
  rw [Bool.eq_false_iff]; intro ha
  have := List.all_eq_true.1 ha l[k] (List.getElem_mem h)
  rw [hk] at this; cases this
set_option maxHeartbeats 1000000 in
theorem indexf_any (g : Nat) (eg : ∀ args w, (callFunc g args).run Tryz.prog w = .ok (.enter g args) w) (lb : Array Value) (p : C → Bool) (a0 : Option Addr) (cap : Nat) (l : List C) (w : World) (hl : Conds w a0 l) (hlm : l.length ≤ 1000000)
    (hp : ∀ W, Below w.heap.size w W → ∀ c ∈ l, Calls Tryz.prog g (#[cc c] ++ lb) W fun e w' => e = .returned (.bool (p c)) ∧ Below W.heap.size W w') :
    Calls Tryz.prog 89 #[.slice a0 l.length cap, .func (.func g) #[] lb] w fun e w' =>
      (∃ i : Int, e = .returned (.int .i64 i) ∧ decide (0 ≤ i) = l.any p) ∧ Below w.heap.size w w' := by
  have HL := Lib.hid hl; have HP := Lib.hid hp; clear hl hp
  go_enter Tryz.func89, Tryz.ntmps89
  go_wp2_with fail
  go_loopg [5, 8] l.length (fun gg _ vi wr => ∃ k : Nat, k ≤ l.length ∧ l.length - k ≤ gg ∧ vi = .int .i64 k ∧ Hid ((l.take k).any p = false) ∧ Below w.heap.size w wr)
  case atStart => exact ⟨0, Nat.zero_le _, by omega, rfl, Lib.hid rfl, Below.refl _ _⟩
  case round =>
    obtain ⟨k, hk, hgk, rfl, HA, hbr⟩ := hrel
    by_cases hlt : k < l.length
    · have i1 : (k : Int) < (l.length : Int) := by omega
      have i0 : (0 : Int) ≤ (k : Int) := by omega
      have hcall := HP.out wr hbr l[k] (List.getElem_mem hlt)
      have hst := any_take_succ p l k hlt
      have hhit := any_hit p l k hlt
      obtain ⟨a, rfl, v0, v1, v2, v3, v4, v5, v6⟩ := (HL.out.below hbr) k hlt
      have HST := Lib.hid hst; have HHIT := Lib.hid hhit
      clear hst hhit
      cases hq : p l[k] with
      | true =>
        rw [hq] at hcall
        have HQ := Lib.hid hq; clear hq
        go_wp2_with (go_at_fn g; refine hcall.mono ?_; rintro e w' ⟨rfl, hb'⟩)
        go_ret
        exact ⟨⟨_, rfl, by rw [HHIT.out HQ.out]; simp⟩, btrans hbr hb'⟩
      | false =>
        rw [hq] at hcall
        have HQ := Lib.hid hq; clear hq
        go_wp2_with (go_at_fn g; refine hcall.mono ?_; rintro e w' ⟨rfl, hb'⟩)
        go_roundg (l.length - (k + 1))
        case measure => omega
        case rel => exact ⟨k + 1, by omega, by omega, by go_num, Lib.hid (by rw [HST.out, HA.out, HQ.out]; rfl), btrans hbr hb'⟩
    · obtain rfl : k = l.length := by omega
      have hA := HA.out
      rw [List.take_length] at hA
      have HB := Lib.hid hA; clear hA
      go_wp2
      go_ret
      exact ⟨⟨_, rfl, by rw [HB.out]; rfl⟩, hbr⟩
theorem containsf_any (g : Nat) (eg : ∀ args w, (callFunc g args).run Tryz.prog w = .ok (.enter g args) w) (lb : Array Value) (p : C → Bool) (a0 : Option Addr) (cap : Nat) (l : List C) (w : World) (hl : Conds w a0 l) (hlm : l.length ≤ 1000000)
    (hp : ∀ W, Below w.heap.size w W → ∀ c ∈ l, Calls Tryz.prog g (#[cc c] ++ lb) W fun e w' => e = .returned (.bool (p c)) ∧ Below W.heap.size W w') :
    Calls Tryz.prog 66 #[.slice a0 l.length cap, .func (.func g) #[] lb] w fun e w' => e = .returned (.bool (l.any p)) ∧ Below w.heap.size w w' := by
  have hi := indexf_any g eg lb p a0 cap l w hl hlm hp
  have HI := Lib.hid hi; clear hi hp hl
  generalize l.any p = R at *
  go_enter Tryz.func66, Tryz.ntmps66
  go_wp2_with (go_at_call 89; refine HI.out.mono ?_; rintro e w2 ⟨⟨i, rfl, hR⟩, hb1⟩)
  go_ret
  exact ⟨rfl, by repeat (first | assumption | (with_reducible exact Below.refl _ _) | exact balloc _ _ | exact balloc2 _ _ _ | refine btrans ?_ (by assumption) | refine btrans ?_ (balloc _ _))⟩
theorem enters_void (args : Array Value) (w : World) : (callFunc 67 args).run Tryz.prog w = .ok (.enter 67 args) w := enters_of Tryz.func67 (by kernel_rfl) rfl args w
theorem enters_covers1 (args : Array Value) (w : World) : (callFunc 68 args).run Tryz.prog w = .ok (.enter 68 args) w := enters_of Tryz.func68 (by kernel_rfl) rfl args w
theorem fvoid_any (sc : List UInt8) (a0 : Option Addr) (cap : Nat) (l : List C) (w : World) (hl : Conds w a0 l) (hlm : l.length ≤ 1000000) :
    Calls Tryz.prog 40 #[ev sc a0 l.length cap] w fun e w' => e = .returned (.bool (fVoid l)) ∧ Below w.heap.size w w' := by
  have hc (W : World) (h : Conds W a0 l) : Calls Tryz.prog 66 #[.slice a0 l.length cap, .func (.func 67) #[] #[]] W fun e w' => e = .returned (.bool (fVoid l)) ∧ Below W.heap.size W w' :=
    containsf_any _ enters_void #[] cvoidB a0 cap l W h hlm (fun V hV c hc => cvoid_any c.name c.op c.val.kind c.val.int c.val.num c.val.text c.val.yes V)
  have HC := Lib.hid hc; have HL := Lib.hid hl; clear hc hl
  generalize fVoid l = R at *
  go_enter Tryz.func40, Tryz.ntmps40
  go_wp2_with (go_at_call 66; refine (HC.out _ (HL.out.below (by repeat (first | assumption | (with_reducible exact Below.refl _ _) | exact balloc _ _ | exact balloc2 _ _ _ | refine btrans ?_ (by assumption) | refine btrans ?_ (balloc _ _))))).mono ?_; rintro e w2 ⟨rfl, hb1⟩)
  go_ret
  exact ⟨rfl, by repeat (first | assumption | (with_reducible exact Below.refl _ _) | exact balloc _ _ | exact balloc2 _ _ _ | refine btrans ?_ (by assumption) | refine btrans ?_ (balloc _ _))⟩
def CBox (W : World) (b : Nat) (c : C) : Prop := CAt W ⟨b, 0, none⟩ c
set_option maxHeartbeats 1000000 in
theorem covers1_any (d c : C) (b : Nat) (w : World) (hb : CAt w ⟨b, 0, none⟩ c) (d0 : 0 ≤ d.op ∧ d.op ≤ 7) (hx1 : d.val.num < 18446744073709551616) (hx2 : c.val.num < 18446744073709551616) :
    Calls Tryz.prog 68 #[cc d, .pointer (some ⟨b, 0, none⟩)] w fun e w' => e = .returned (.bool (impliesB d c)) ∧ Below w.heap.size w w' := by
  have hi (W : World) := implies_any d.name d.op d.val.kind d.val.int d.val.num d.val.text d.val.yes c.name c.op c.val.kind c.val.int c.val.num c.val.text c.val.yes W d0.1 d0.2 hx1 hx2
  have he : impliesB ⟨d.name, d.op, d.val.kind, d.val.int, d.val.num, d.val.text, d.val.yes⟩ ⟨c.name, c.op, c.val.kind, c.val.int, c.val.num, c.val.text, c.val.yes⟩ = impliesB d c := rfl
  rw [he] at hi
  obtain ⟨v0, v1, v2, v3, v4, v5, v6⟩ := hb
  have hlt := World.block_lt_of_cell? _ _ v0
  have HI := Lib.hid hi; clear hi he d0 hx1 hx2
  generalize impliesB d c = R at *
  go_enter Tryz.func68, Tryz.ntmps68
  go_wp2_with (go_at_call 69; refine (HI.out _).mono ?_; rintro e w2 ⟨rfl, hb1⟩)
  go_ret
  exact ⟨rfl, by repeat (first | assumption | (with_reducible exact Below.refl _ _) | exact balloc _ _ | exact balloc2 _ _ _ | refine btrans ?_ (by assumption) | refine btrans ?_ (balloc _ _))⟩
/-- two boxes of two cells each, laid one behind the other -/
def Box2 (w : World) (b : Nat) (s : List UInt8) (a0 : Option Addr) (n cap : Nat) : Prop := w.cell? ⟨b, 0, none⟩ = some (.string ⟨s.toArray⟩) ∧ w.cell? ⟨b, 1, none⟩ = some (.slice a0 n cap)
theorem Box2.below {w w2 : World} {b : Nat} {s : List UInt8} {a0 : Option Addr} {n cap : Nat} (h : Box2 w b s a0 n cap) (hb : Below w.heap.size w w2) : Box2 w2 b s a0 n cap :=
  ⟨(hb.cell (World.block_lt_of_cell? _ _ h.1)).trans h.1, (hb.cell (World.block_lt_of_cell? _ _ h.2)).trans h.2⟩
theorem box2_new (w : World) (s : List UInt8) (a0 : Option Addr) (n cap : Nat) (T : TypeId) : Box2 (w.alloc (.cells #[.string ⟨s.toArray⟩, .slice a0 n cap] T)) w.heap.size s a0 n cap := by
  have c : ∀ o, (w.alloc (.cells #[.string ⟨s.toArray⟩, .slice a0 n cap] T)).cell? ⟨w.heap.size, o, none⟩ = #[.string ⟨s.toArray⟩, .slice a0 n cap][o]? := fun o => World.cell?_alloc_at _ _ _ _ rfl
  exact ⟨c 0, c 1⟩
theorem Box2.lt {w : World} {b : Nat} {s : List UInt8} {a0 : Option Addr} {n cap : Nat} (h : Box2 w b s a0 n cap) : b < w.heap.size := World.block_lt_of_cell? _ _ h.1
end Go.Proofs.YtdggofleokjmcaaGreatDoor.Val
