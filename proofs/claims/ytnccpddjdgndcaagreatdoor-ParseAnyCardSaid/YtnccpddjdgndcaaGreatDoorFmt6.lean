/- THE TEXT THAT FormatFloat WRITES: the row that grows, the digits beside it. No walk. -/
import Derived.Test.YtnccpddjdgndcaaGreatDoorFmt4
import Derived.Laws.AppendOwn
import Derived.Maps.AppendAt
import Derived.Deep.DeepCutAuto
import Derived.Deep.LoopGhost
namespace Go.Proofs.YtnccpddjdgndcaaGreatDoor.Fmt
open Go.RowKit Go.Lib
def e8 (b : UInt8) : Value := .int .u8 (b.toNat : Int)
theorem info_u8 : (Tryz.prog.info? 5).map (fun i => (i.zero, i.size, i.bytes)) = some (some (.int .u8 0), 1, 1) := by kernel_rfl
/-- the row of the text so far (the call's own), and the digits' block, which is of another kind -/
structure St (w0 W : World) (base : Nat) (src : Option (Nat × Array Value)) (v : Value) (txt : List UInt8) : Prop where
  own : W.ownsRow base 5 1 v txt.length (txt.map e8)
  blk : ∀ p, src = some p → W.heap[p.1]? = some (.cells p.2 151 (0, 0))
  low : Below base w0 W
  size : base ≤ W.heap.size
theorem own_ne {W : World} {base e e' size : Nat} {v : Value} {n : Nat} {xs : List Value} {g : Nat} {cs : Array Value} (h : W.ownsRow base e size v n xs)
    (hb : W.heap[g]? = some (.cells cs e' (0, 0))) (hne : e ≠ e') : some g ≠ v.ownBlock := by
  rcases h.2 with ⟨rfl, _⟩ | ⟨g2, cap, cur, rfl, _, hg, _⟩
  · simp [Value.ownBlock]
  · simp only [Value.ownBlock]
    intro e2
    have : g = g2 := by simpa using e2
    subst this
    rw [hb] at hg
    have := Option.some.inj hg
    injection this with _ h2 _
    exact hne h2.symm
theorem St.step0 {w0 W w3 : World} {base : Nat} {src : Option (Nat × Array Value)} {v v' : Value} {txt new : List UInt8} {n : Nat} {news : List Value} (h : St w0 W base src v txt)
    (ho : w3.ownsRow base 5 1 v' (txt.length + n) (txt.map e8 ++ news)) (hg : W.grownBy w3 v.ownBlock) (he : news = new.map e8) (hn : n = new.length) : St w0 w3 base src v' (txt ++ new) := by
  subst he hn
  refine ⟨by rw [List.length_append, List.map_append]; exact ho, fun p hp => ?_, h.low.grown hg h.size (fun k hk => (h.own.lt k hk).1), Nat.le_trans h.size hg.size⟩
  have hb := h.blk p hp
  rw [hg.block p.1 (Array.getElem?_eq_some_iff.1 hb).1 (own_ne h.own hb (by decide))]
  exact hb
theorem St.alloc {w0 W : World} {base : Nat} {src : Option (Nat × Array Value)} {v : Value} {txt : List UInt8} (h : St w0 W base src v txt) (o : Obj) : St w0 (W.alloc o) base src v txt := by
  refine ⟨h.own.alloc o, fun p hp => ?_, h.low.alloc h.size o, by have := h.size; simp; omega⟩
  have hb := h.blk p hp
  rw [Below.heap_alloc W o p.1 (Array.getElem?_eq_some_iff.1 hb).1]
  exact hb
theorem St.step {w0 W w3 : World} {base : Nat} {src : Option (Nat × Array Value)} {v v' : Value} {txt new : List UInt8} {n : Nat} {news : List Value} {o : Obj} (h : St w0 W base src v txt)
    (ho : w3.ownsRow base 5 1 v' (txt.length + n) (txt.map e8 ++ news)) (hg : (W.alloc o).grownBy w3 v.ownBlock) (he : news = new.map e8) (hn : n = new.length) : St w0 w3 base src v' (txt ++ new) :=
  (h.alloc o).step0 ho hg he hn
theorem cells_new (w : World) (l : List Value) (t : TypeId) : ∀ j u, l[j]? = some u → (w.alloc (.cells l.toArray t)).cell? ((⟨w.heap.size, 0, none⟩ : Addr).add j) = some u := by
  intro j u hj
  have hadd : (⟨w.heap.size, 0, none⟩ : Addr).add j = ⟨w.heap.size, j, none⟩ := by unfold Addr.add; split <;> simp_all
  rw [hadd, cell_of_row _ _ j l.toArray t (0, 0) (heap_alloc_new w _)]
  simpa using hj
theorem cells_new1 (w : World) (a : Value) (t : TypeId) : ∀ j u, [a][j]? = some u → (w.alloc (.cells #[a] t)).cell? ((⟨w.heap.size, 0, none⟩ : Addr).add j) = some u := cells_new w [a] t
theorem cells_new2 (w : World) (a b : Value) (t : TypeId) : ∀ j u, [a, b][j]? = some u → (w.alloc (.cells #[a, b] t)).cell? ((⟨w.heap.size, 0, none⟩ : Addr).add j) = some u := cells_new w [a, b] t
theorem cells_new3 (w : World) (a b c : Value) (t : TypeId) : ∀ j u, [a, b, c][j]? = some u → (w.alloc (.cells #[a, b, c] t)).cell? ((⟨w.heap.size, 0, none⟩ : Addr).add j) = some u := cells_new w [a, b, c] t
theorem one8 (l : List UInt8) : ∀ u ∈ l.map e8, u.oneCell' = true := by
  intro u hu; obtain ⟨b, _, rfl⟩ := List.mem_map.1 hu; rfl
theorem one1 (x : Int) : ∀ u ∈ [Value.int .u8 x], u.oneCell' = true := by intro u hu; simp at hu; subst hu; rfl
theorem one2 (x y : Int) : ∀ u ∈ [Value.int .u8 x, .int .u8 y], u.oneCell' = true := by
  intro u hu; simp at hu; rcases hu with rfl | rfl <;> rfl
theorem one3 (x y z : Int) : ∀ u ∈ [Value.int .u8 x, .int .u8 y, .int .u8 z], u.oneCell' = true := by
  intro u hu; simp at hu; rcases hu with rfl | rfl | rfl <;> rfl
theorem d1 {x : Int} {a : UInt8} (h : x = (a.toNat : Int)) : [Value.int .u8 x] = [a].map e8 := by subst h; rfl
theorem d2 {x y : Int} {a b : UInt8} (h : x = (a.toNat : Int)) (k : y = (b.toNat : Int)) : [Value.int .u8 x, .int .u8 y] = [a, b].map e8 := by subst h k; rfl
theorem d3 {x y z : Int} {a b c : UInt8} (h : x = (a.toNat : Int)) (k : y = (b.toNat : Int)) (m : z = (c.toNat : Int)) : [Value.int .u8 x, .int .u8 y, .int .u8 z] = [a, b, c].map e8 := by subst h k m; rfl
/-- an append of some bytes to the text -/
theorem wpList_text {ops : Array Oper} {rest : List Oper} {o : Oper} {a : Act} {Q : Exit → Act → World → Prop} {w0 W : World} {base : Nat} {src : Option (Nat × Array Value)} {txt : List UInt8}
    (hgd : o.guard = none) (s x : Operand) (ho : o.op = .call { callee := .builtin .append, args := #[s, x], argTypes := #[95, 95] })
    (hs : St w0 W base src (a.eval s) txt) (ad : Addr) (m c : Nat) (news : List Value) (new : List UInt8) (hx : a.eval x = .slice (some ad) m c)
    (hnews : ∀ j u, news[j]? = some u → W.cell? (ad.add j) = some u) (he : news = new.map e8) (hm : new.length = m) (hb : txt.length + new.length ≤ 1000)
    (h : ∀ v' w', St w0 w' base src v' (txt ++ new) → wpList Tryz.prog ops Q rest (a.put o.dst v') w') : wpList Tryz.prog ops Q (o :: rest) a W := by
  obtain ⟨i0, hi, hz⟩ := Option.map_eq_some_iff.1 info_u8
  injection hz with hz0 hzz
  injection hzz with hz1 hz2
  refine wpList_append_own _ hgd s x 95 ho base 5 i0 (.int .u8 0) 1 1 Tryz.underlying95 hi hz0 hz1 hz2 rfl (by decide) _ _ _ rfl hs.own ad m c news hx (by rw [he, List.length_map]; omega) hnews
    (by rw [he]; exact one8 _) (by unfold maxLen; omega) (by omega) hs.size ?_
  intro v' w3 ho3 hg _
  exact h v' w3 (hs.step0 ho3 hg he hm.symm)
/-- the digits as they lie -/
def Dig (cs : Array Value) (D : List UInt8) : Prop := ∀ j (h : j < D.length), cs[j]? = some (e8 D[j])
theorem St.dig {w0 W : World} {base g : Nat} {cs : Array Value} {v : Value} {txt D : List UInt8} (h : St w0 W base (some (g, cs)) v txt) (hd : Dig cs D) (j : Nat) (hj : j < D.length) :
    W.cell? ⟨g, j, none⟩ = some (.int .u8 (D[j].toNat : Int)) := by
  rw [cell_of_row W g j cs 151 (0, 0) (h.blk _ rfl)]
  exact hd j hj
theorem St.digs {w0 W : World} {base g : Nat} {cs : Array Value} {v : Value} {txt D : List UInt8} (h : St w0 W base (some (g, cs)) v txt) (hd : Dig cs D) (o : Nat) :
    ∀ j u, ((D.drop o).map e8)[j]? = some u → W.cell? ((⟨g, o, none⟩ : Addr).add j) = some u := by
  intro j u hu
  obtain ⟨b, hb, rfl⟩ := by simpa using hu
  obtain ⟨hl, rfl⟩ := List.getElem?_eq_some_iff.1 hb
  have hadd : (⟨g, o, none⟩ : Addr).add j = ⟨g, o + j, none⟩ := by unfold Addr.add; split <;> simp_all
  rw [hadd]
  exact h.dig hd (o + j) hl
/-- one decimal digit -/
def dg (k : Nat) : UInt8 := UInt8.ofNat (48 + k % 10)
theorem dg_nat (k : Nat) : (dg k).toNat = 48 + k % 10 := by
  show (48 + k % 10) % 256 = _
  omega
/-- an exponent as it is written: two digits, or three -/
def exps (x : Nat) : List UInt8 := if x < 100 then [dg (x / 10), dg x] else [dg (x / 100), dg (x / 10), dg x]
def sgn (neg : Bool) : List UInt8 := if neg then [45] else []
/-- the 'e' form -/
def eText (D : List UInt8) (dp : Int) : List UInt8 :=
  [D[0]!] ++ (if 1 < D.length then [46] ++ D.drop 1 else []) ++ [101] ++ (if dp - 1 < 0 then [45] else [43]) ++ exps (dp - 1).natAbs
/-- the 'f' form -/
def fText (D : List UInt8) (dp : Int) : List UInt8 :=
  (if 0 < dp then D.take dp.toNat ++ List.replicate (dp.toNat - D.length) 48 else [48]) ++
  (if dp < (D.length : Int) then [46] ++ List.replicate (-dp).toNat 48 ++ D.drop dp.toNat else [])
def gText (D : List UInt8) (dp : Int) : List UInt8 := if dp - 1 < -4 ∨ 6 ≤ dp - 1 then eText D dp else fText D dp
end Go.Proofs.YtnccpddjdgndcaaGreatDoor.Fmt
