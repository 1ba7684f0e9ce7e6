/- MERGED BY A PROGRAM OF MINE (pmg.py) out of my own texts, pruned, in their order: Frame, Open, Shaped, ParseFl, PfLaid, Pf1, NtA, NtB, NtC, NtD, NtE, NtF, Pf2, NtG, NtH, Pf3, PfE1, PfE2, PwLaid, RfS, DcFn, DcM. -/
import Derived.Test.YtnccpddjdgndcaaGreatDoorCards
import Derived.Test.YtnccpddjdgndcaaGreatDoorTie
import Derived.LaidMore
import Derived.Lay
import Derived.SevenTiedAt
import Derived.Stop.Joined
import Derived.Test.YtnccpddjdgndcaaGreatDoorRows
import Derived.Test.YtnccpddjdgndcaaGreatDoorFmtW
import Derived.Test.YtnccpddjdgndcaaGreatDoorRfDef
import Derived.Test.YtnccpddjdgndcaaGreatDoorValFn
import Derived.Test.YtnccpddjdgndcaaGreatDoorCond
import Derived.WalkKit
import Derived.ProofKit
import Derived.OpenShut
import Derived.OpenVars
import Derived.SizedLaws
import Derived.Deep.Slices
import Derived.Handed
import Derived.Test.YtnccpddjdgndcaaGreatDoorTabs
import Derived.Handy
import Derived.Laws.Cover2
import Derived.WalkMore
import Derived.Test.YtnccpddjdgndcaaGreatDoorFmt2
import Derived.Test.YtnccpddjdgndcaaGreatDoorFmtD
import Derived.Test.YtnccpddjdgndcaaGreatDoorFmtK
import Derived.Test.YtnccpddjdgndcaaGreatDoorFmt3
import Derived.Test.YtnccpddjdgndcaaGreatDoorFmtM
import Derived.Test.YtnccpddjdgndcaaGreatDoorFlt
import Derived.Laws.BitsAllLaws
import Derived.Test.YtnccpddjdgndcaaGreatDoorOrdFn
import Derived.Test.YtnccpddjdgndcaaGreatDoorUqB
import Derived.Test.YtnccpddjdgndcaaGreatDoorRfB
import Derived.Lib.ItoaNum
import Derived.Test.YtnccpddjdgndcaaGreatDoorUok
import Derived.Deep.DeepCutAuto
import Derived.Deep.CutBlock
import Derived.Deep.CutRange
import Derived.Deep.LoopGhost
import Derived.Deep.QuietTactic
import Derived.BigQuiet
import Derived.IntWalk
import Derived.Lib.Hide

section
/- THE FRAME OF EVERY LAW OF THIS SEAT: a law that returns true and leaves all that was there as it was meets its given post. -/
namespace Go.Proofs.YtnccpddjdgndcaaGreatDoor.Frame
open Go.ChangeShapes Go.WideShapes Go.ChangeAt Go.RowKit

theorem own : ownKnob Tryz.prog.godebug = none := by kernel_rfl
theorem laidOut : laidOutB Tryz.prog = true := by kernel_rfl

section
variable {H : Type} {enc : TypeId × Value → H} {P : Program}
/-- the types of the parameters can be read -/
def rowed (P : Program) (ts : List TypeId) : Bool := ts.all fun t => P.readableRec t && decide (t < P.types.size)

theorem trodAll_below (hl : laidOutB P = true) {W W' : World} (hb : Below W.heap.size W W') :
    ∀ {ts : List TypeId} {vs : List Value} {ds : List (DataW H)} {ps : List MemPlace}, rowed P ts = true →
      DataW.TrodAll enc P W 0 (fun _ => true) true ts vs ds ps → DataW.TrodAll enc P W' 0 (fun b => decide (b < W.heap.size)) true ts vs ds ps
  | [], [], [], _, _, h => h
  | [], [], _ :: _, _, _, h => h.elim
  | [], _ :: _, _, _, _, h => by cases ‹List (DataW H)› <;> exact h.elim
  | _ :: _, [], _, _, _, h => h.elim
  | _ :: _, _ :: _, [], _, _, h => h.elim
  | t :: ts, v :: vs, d :: ds, ps, hv, h => by
    have hlt := h.lt
    obtain ⟨p, q, h1, h2, e⟩ := h
    simp only [rowed, List.all_cons, Bool.and_eq_true, decide_eq_true_eq] at hv
    exact ⟨p, q, Below.trod hl hv.1.1 hv.1.2 h1 hb (fun x hx => hlt x (by rw [e]; simp [hx])), trodAll_below hl hb (by simpa [rowed] using hv.2) h2, e⟩

theorem law_post {f : Func} {s : ChangeSpec} {W W' : World} {args : Array Value} {ds gs : List (DataW H)} {before : List MemPlace} {tb : TypeId}
    (hl : laidOutB P = true) (hp : rowed P f.params.toList = true) (hv : varsRowed P s.vars = true)
    (hr : f.resultTypes = #[tb]) (hu : P.underlying tb = some .bool)
    (hs : (s.fn H (ds ++ gs)).results = [.lit (.bool true)]) (ha : (s.fn H (ds ++ gs)).args = ds) (hg : (s.fn H (ds ++ gs)).vars = gs)
    (hW : DataW.Whole enc P f.params.toList s.vars false W args.toList ds gs before) (hb : Below W.heap.size W W') :
    s.post enc P f false true false false W args (.bool true) W' := by
  have hW' := hW
  obtain ⟨p, q, hA, hV, rfl, hfz, hnd⟩ := hW
  refine ⟨ds, gs, p ++ q, [], p, q, hW', ?_, ?_, ?_, hb.frame _, fun h => by cases h⟩
  · rw [hr, hs]
    exact trodAll_mk1 (shut_bool hu true)
  · rw [ha]; exact trodAll_below hl hb hp hA
  · rw [hg]; exact hb.trodVars hl hv hV
end
end Go.Proofs.YtnccpddjdgndcaaGreatDoor.Frame
end

section
/- OPENING AN ARGUMENT OF STRUCTS WITHIN STRUCTS TO ITS CELLS, cell by cell, each with its own reading and its weights. Over any program. -/
namespace Go.Proofs.YtnccpddjdgndcaaGreatDoor.Open
open Go.ChangeShapes Go.WideShapes Go.ChangeAt Go.RowKit Go.Deep

section
variable {H : Type} {enc : TypeId × Value → H} {P : Program} {w : World} {base : Nat} {spare : Nat → Bool} {held : Bool}
/-- the types of a type's cells -/
def leaves (P : Program) : Nat → TypeId → List TypeId
  | 0, t => [t]
  | n + 1, t => match P.underlying t with
    | some (.struct fs) => fs.toList.flatMap fun f => leaves P n f.type
    | _ => [t]
/-- cells, each read at its own type; their weights are among those of the whole -/
def Cells (enc : TypeId × Value → H) (P : Program) (w : World) (base : Nat) (spare : Nat → Bool) (held : Bool) (W : List Nat) : List TypeId → List Value → Prop
  | [], [] => True
  | t :: ts, v :: vs => (∃ m y, DataW.trod enc P w base spare held m t [v] = some y ∧ ∀ k ∈ DataW.weights P t y.1, k ∈ W) ∧ Cells enc P w base spare held W ts vs
  | _, _ => False
theorem Cells.append {W : List Nat} : ∀ {ts ts' : List TypeId} {vs vs' : List Value}, Cells enc P w base spare held W ts vs → Cells enc P w base spare held W ts' vs' → Cells enc P w base spare held W (ts ++ ts') (vs ++ vs')
  | [], _, [], _, _, h => h
  | [], _, _ :: _, _, h, _ => h.elim
  | _ :: _, _, [], _, h, _ => h.elim
  | _ :: _, _, _ :: _, _, h, k => ⟨h.1, Cells.append h.2 k⟩
/-- one cell's reading -/
def Leaf (enc : TypeId × Value → H) (P : Program) (w : World) (base : Nat) (spare : Nat → Bool) (held : Bool) (W : List Nat) (t : TypeId) (v : Value) : Prop :=
  ∃ m y, DataW.trod enc P w base spare held m t [v] = some y ∧ ∀ k ∈ DataW.weights P t y.1, k ∈ W
theorem Cells.cons {W : List Nat} {t : TypeId} {ts : List TypeId} {vs : List Value} (h : Cells enc P w base spare held W (t :: ts) vs) : ∃ v us, vs = v :: us ∧ Leaf enc P w base spare held W t v ∧ Cells enc P w base spare held W ts us := by
  cases vs with
  | nil => exact h.elim
  | cons v us => exact ⟨v, us, rfl, h.1, h.2⟩
theorem Cells.nil {W : List Nat} {vs : List Value} (h : Cells enc P w base spare held W [] vs) : vs = [] := by
  cases vs with
  | nil => rfl
  | cons v us => exact h.elim
theorem Leaf.int {W : List Nat} {t : TypeId} {v : Value} {k : IntKind} (ht : P.underlying t = some (.int k)) (h : Leaf enc P w base spare held W t v) : ∃ n, v = .int k n ∧ (Lit.int k n).wf = true := by
  obtain ⟨m, y, h1, _⟩ := h
  obtain ⟨n, e, _, hw⟩ := DataW.trod_int ht h1
  exact ⟨n, by simpa using e, hw⟩
theorem Leaf.bool {W : List Nat} {t : TypeId} {v : Value} (ht : P.underlying t = some .bool) (h : Leaf enc P w base spare held W t v) : ∃ b, v = .bool b := by
  obtain ⟨m, y, h1, _⟩ := h
  obtain ⟨n, e, _⟩ := DataW.trod_bool ht h1
  exact ⟨n, by simpa using e⟩
theorem Leaf.float {W : List Nat} {t : TypeId} {v : Value} {k : FloatKind} (ht : P.underlying t = some (.float k)) (h : Leaf enc P w base spare held W t v) : ∃ b, v = .float k b ∧ (Lit.float k b).wf = true := by
  obtain ⟨m, y, h1, _⟩ := h
  cases m with
  | zero => simp [DataW.trod] at h1
  | succ m =>
    unfold DataW.trod at h1
    rw [ht] at h1
    split at h1 <;> simp_all
theorem Leaf.string {W : List Nat} {t : TypeId} {v : Value} (ht : P.underlying t = some .string) (h : Leaf enc P w base spare held W t v) : ∃ l : List UInt8, v = .string ⟨l.toArray⟩ ∧ l.length ∈ W := by
  obtain ⟨m, y, h1, h2⟩ := h
  obtain ⟨s, e, rfl, hm⟩ := DataW.trod_string ht h1
  refine ⟨s.data.toList, by simpa using e, h2 _ (by simp [DataW.weights])⟩
end
end Go.Proofs.YtnccpddjdgndcaaGreatDoor.Open
end

section
/- The wrap of a tied law whose walk needs a fact of the program's variables' places. -/
namespace Go.Proofs.YtnccpddjdgndcaaGreatDoor.Shp
open Go
section
variable {H : Type} {enc : TypeId × Value → H}
/-- as the kit's wrap for a change, with a fact of the world that follows from the variables' shapes -/
theorem returns_shaped {a : Assume} {C : Checked} {os : Os} {f : FuncId} {fn : Func} {s : ChangeSpec} {conds : List PathCond} {apart fresh handsOn again : Bool} {X : World → Array Value → Prop} {S : World → Prop}
    (hS : ∀ W : World, W.ShapedOpen C.prog → S W) (hX : ∀ (w w' : World) (args : Array Value), w.heap = w'.heap → X w args → X w' args)
    (own : ownKnob C.prog.godebug = none) (started : os.Started) (noInit : C.prog.inits.idxOf? f = none) (hfn : C.prog.funcs[f]? = some fn)
    (witness : ∃ (w : World) (tape : Tape) (i : Input), w.os = os ∧ (w.forCall tape i).Shaped C.prog ∧ i.vars = [] ∧ Input.okWide C.prog (w.forCall tape i) .any w.heap.size f i ∧
      ((s.pre enc C.prog fn conds apart (w.forCall tape i).memory i.args ∧ X (w.forCall tape i).memory i.args) ∧ sizedMet enc C.prog fn (OpenSpec.ofChange s) apart (w.forCall tape i).memory i.args) ∧ a.holds C.prog (lone (Frame.enter C.prog f i.args .normal) [] (w.forCall tape i)))
    (contract : ∀ (W : World) (base : Nat) (args : Array Value) (ds gs : List (DataW H)) (before : List MemPlace), S W →
      (∀ (j : Nat) t v, fn.params[j]? = some t → args[j]? = some v → Value.okWide C.prog W .any base t v) →
      DataW.Whole enc C.prog fn.params.toList s.vars apart W args.toList ds gs before →
      conds.all (PathCond.test C.prog ⟨fn.params.toList, ds, s.plain.varTypes C.prog, gs⟩) = true →
      (DataW.weightsEach C.prog (fn.params.toList ++ s.plain.varTypes C.prog) (ds ++ gs)).all (· ≤ reachBytes) = true → X W args →
      a.holds C.prog (lone (Frame.enter C.prog f args .normal) [] W) →
      Calls C.prog f args W fun e W' => ∃ v, e = .returned v ∧ s.post enc C.prog fn apart fresh handsOn again W args v W') :
    ReturnsInHanded a C os f .any (fun w args => (s.pre enc C.prog fn conds apart w args ∧ X w args) ∧ sizedMet enc C.prog fn (OpenSpec.ofChange s) apart w args) (s.post enc C.prog fn apart fresh handsOn again) := by
  refine returnsInHanded_of_calls own started noInit witness ?_
  intro w tape i _ hsh _ hok hpre hholds
  obtain ⟨_, _, _, fn2, hfn2, _, _, _, _, hval⟩ := hok
  obtain rfl : fn2 = fn := Option.some.inj (hfn2.symm.trans hfn)
  obtain ⟨⟨⟨ds, gs, before, hw, hc⟩, hx⟩, hz⟩ := hpre
  have hw2 := DataW.Whole.of_heap (w' := w.forCall tape i) (by rfl) hw
  refine (contract (w.forCall tape i) w.heap.size i.args ds gs before (hS _ hsh) hval hw2 hc (hz.weights hw) (hX _ _ _ (by rfl) hx) hholds).mono fun e W2 ⟨v, he, hp⟩ => ?_
  subst he
  exact ChangeSpec.post_blind hp
end
end Go.Proofs.YtnccpddjdgndcaaGreatDoor.Shp
end

section
/- THE WALK OF strconv.ParseFloat AT ONE TEXT ("3.0"): the exact road, thirty divided by ten. -/
namespace Go.Proofs.YtnccpddjdgndcaaGreatDoor.Pf
open Go.RowKit Go.Lib
/-- what the exact road reads -/
structure PfT (w : World) : Prop where
  opt : w.cell? ⟨7, 0, none⟩ = some (.bool true)
  inf : w.cell? ⟨10, 0, none⟩ = some (.int .u64 52)
  pow : ∃ R o c : Nat, w.cell? ⟨13, 0, none⟩ = some (.slice (some ⟨R, o, none⟩) 23 c) ∧ w.cell? ⟨R, o + 1, none⟩ = some (.float .f64 4621819117588971520)
theorem PfT.below {w w' : World} {B : Nat} (h : PfT w) (hb : Below B w w') (hB : w.heap.size ≤ B) : PfT w' := by
  obtain ⟨h1, h2, R, o, c, h3, h4⟩ := h
  exact ⟨Tab.cell_below hb hB h1, Tab.cell_below hb hB h2, R, o, c, Tab.cell_below hb hB h3, Tab.cell_below hb hB h4⟩
/-- "3.0" -/
abbrev t3 : Value := .string ⟨#[51, 46, 48]⟩
theorem g0 (h : 0 < (⟨#[51, 46, 48]⟩ : ByteArray).size) : ((⟨#[51, 46, 48]⟩ : ByteArray)[0]'h) = 51 := rfl
theorem g1 (h : 1 < (⟨#[51, 46, 48]⟩ : ByteArray).size) : ((⟨#[51, 46, 48]⟩ : ByteArray)[1]'h) = 46 := rfl
theorem g2 (h : 2 < (⟨#[51, 46, 48]⟩ : ByteArray).size) : ((⟨#[51, 46, 48]⟩ : ByteArray)[2]'h) = 48 := rfl
attribute [local go_sem] g0 g1 g2
set_option maxRecDepth 100000 in
set_option maxHeartbeats 2000000 in
theorem special_3 (w : World) : Calls Tryz.prog 147 #[t3] w fun e w' => e = .returned (.tuple #[.float .f64 0, .int .i64 0, .bool false]) ∧ w = w' := by
  go_enter Tryz.func147, Tryz.ntmps147
  go_wp2
  go_returns
  exact ⟨rfl, rfl⟩
set_option maxRecDepth 100000 in
set_option maxHeartbeats 8000000 in
theorem read_3 (w : World) : Calls Tryz.prog 148 #[t3] w fun e w' => e = .returned (.tuple #[.int .u64 30, .int .i64 (-1), .bool false, .bool false, .bool false, .int .i64 3, .bool true]) ∧ w = w' := by
  go_enter Tryz.func148, Tryz.ntmps148
  go_wp2
  go_step3
  go_wp2
  go_step3
  go_wp2
  go_rounds 4
  rw [Exit.noGoto_ret]
  refine bodyPost_ret (v := .tuple #[.int .u64 30, .int .i64 (-1), .bool false, .bool false, .bool false, .int .i64 3, .bool true]) (by simp [results, Tryz.results148, go_sem]; try rfl) rfl ?_
  exact ⟨rfl, rfl⟩
theorem f30 : floatOfInt .f64 30 = 4629137466983448576 := by decide +kernel
theorem d30 : FloatKind.f64.format.div 4629137466983448576 4621819117588971520 = some 4613937818241073152 := by decide +kernel
set_option maxRecDepth 100000 in
set_option maxHeartbeats 2000000 in
theorem exact_3 (w : World) (h : PfT w) : Calls Tryz.prog 158 #[.int .u64 30, .int .i64 (-1), .bool false] w fun e w' => e = .returned (.tuple #[.float .f64 4613937818241073152, .bool true]) ∧ w = w' := by
  obtain ⟨h1, h2, R, o, c, h3, h4⟩ := h
  have hru (w : World) : (binOp .quo 23 (.float .f64 (floatOfInt .f64 30)) (.float .f64 4621819117588971520)).run Tryz.prog w = .ok (.float .f64 4613937818241073152) w := by
    rw [f30]; simp [binOp, Op.floatArith, d30]
  go_enter Tryz.func158, Tryz.ntmps158
  go_wp2
  go_returns
  exact ⟨rfl, rfl⟩
set_option maxRecDepth 100000 in
set_option maxHeartbeats 2000000 in
theorem atof_3 (w : World) (h : PfT w) : Calls Tryz.prog 111 #[t3] w fun e w' => e = .returned (.tuple #[.float .f64 4613937818241073152, .int .i64 3, .nilIface]) ∧ w = w' := by
  have ho := h.opt
  have HP := Lib.hid h; clear h
  go_enter Tryz.func111, Tryz.ntmps111
  go_wp2_with (first
    | (go_at_call 147; refine (special_3 _).mono ?_; rintro e w' ⟨rfl, rfl⟩)
    | (go_at_call 148; refine (read_3 _).mono ?_; rintro e w' ⟨rfl, rfl⟩)
    | (go_at_call 156; refine (Fmt.bool2_any _ _).mono ?_; rintro e w' ⟨rfl, rfl⟩)
    | (go_at_call 158; refine (exact_3 _ HP.out).mono ?_; rintro e w' ⟨rfl, rfl⟩) | fail)
  go_returns
  exact ⟨rfl, rfl⟩
set_option maxHeartbeats 1000000 in
theorem prefix_3 (w : World) (h : PfT w) : Calls Tryz.prog 79 #[t3, .int .i64 64] w fun e w' => e = .returned (.tuple #[.float .f64 4613937818241073152, .int .i64 3, .nilIface]) ∧ w = w' := by
  have HP := Lib.hid h; clear h
  go_enter Tryz.func79, Tryz.ntmps79
  go_wp2_with (go_at_call 111; refine (atof_3 _ HP.out).mono ?_; rintro e w' ⟨rfl, rfl⟩)
  go_returns
  exact ⟨rfl, rfl⟩
set_option maxHeartbeats 1000000 in
theorem iparse_3 (w : World) (h : PfT w) : Calls Tryz.prog 48 #[t3, .int .i64 64] w fun e w' => e = .returned (.tuple #[.float .f64 4613937818241073152, .nilIface]) ∧ w = w' := by
  have HP := Lib.hid h; clear h
  go_enter Tryz.func48, Tryz.ntmps48
  go_wp2_with (go_at_call 79; refine (prefix_3 _ HP.out).mono ?_; rintro e w' ⟨rfl, rfl⟩)
  go_returns
  exact ⟨rfl, rfl⟩
set_option maxHeartbeats 1000000 in
theorem parse_3 (w : World) (h : PfT w) : Calls Tryz.prog 31 #[t3, .int .i64 64] w fun e w' => e = .returned (.tuple #[.float .f64 4613937818241073152, .nilIface]) ∧ w = w' := by
  have HP := Lib.hid h; clear h
  go_enter Tryz.func31, Tryz.ntmps31
  go_wp2_with (go_at_call 48; refine (iparse_3 _ HP.out).mono ?_; rintro e w' ⟨rfl, rfl⟩)
  go_returns
  exact ⟨rfl, rfl⟩
end Go.Proofs.YtnccpddjdgndcaaGreatDoor.Pf
end

section
/- THE TABLES THAT ParseFloat's EXACT ROAD READS, as a row lays them. -/
namespace Go.Proofs.YtnccpddjdgndcaaGreatDoor.Pf
open Go.RowKit Go.Lib
theorem trod_float {H : Type} {enc : TypeId × Value → H} {P : Program} {w : World} {base : Nat} {spare : Nat → Bool} {held : Bool} {fuel : Nat} {t : TypeId} {cs : List Value} {x : DataW H × List MemPlace} {k : FloatKind}
    (ht : P.underlying t = some (.float k)) (h : DataW.trod enc P w base spare held fuel t cs = some x) : ∃ n, cs = [.float k n] ∧ x = (.lit (.float k n), []) := by
  cases fuel with
  | zero => simp [DataW.trod] at h
  | succ n =>
    unfold DataW.trod at h
    rw [ht] at h
    split at h <;> simp_all
theorem bool_of_reads {P : Program} {w : World} {name : String} {g : Nat} {t : TypeId} {b : Bool} (hn : P.globalNamed name = some g) (hy : (P.globals[g]?).map (·.type) = some t) (ht : P.underlying t = some .bool)
    (h : VarReads P w name (.lit (.bool b))) : w.cell? ⟨g, 0, none⟩ = some (.bool b) := by
  obtain ⟨g', t', cs, fuel, p, hg, hty, hvar, hd⟩ := h
  obtain rfl := Option.some.inj (hn.symm.trans hg)
  obtain rfl := Option.some.inj (hy.symm.trans hty)
  obtain ⟨b', hb, hx⟩ := DataW.trod_bool ht hd
  have e := congrArg Prod.fst hx
  simp only [DataW.lit.injEq, Lit.bool.injEq] at e
  rw [World.var?_cell hn hvar 0, ← Array.getElem?_toList, hb, e]; rfl
theorem field0_of_reads {P : Program} {w : World} {name : String} {g : Nat} {t : TypeId} {fs : Array Field} {f : Field} {k : IntKind} {z : Int} {ds : List (DataW Unit)} (hn : P.globalNamed name = some g) (hy : (P.globals[g]?).map (·.type) = some t) (ht : P.underlying t = some (.struct fs))
    (hf : fs[0]? = some f) (ho : f.offset = 0) (hc : P.cellsOf f.type = 1) (hk : P.underlying f.type = some (.int k)) (h : VarReads P w name (.agg (.lit (.int k z) :: ds))) : w.cell? ⟨g, 0, none⟩ = some (.int k z) := by
  obtain ⟨g', t', cs, fuel, p, hg, hty, hvar, hd⟩ := h
  obtain rfl := Option.some.inj (hn.symm.trans hg)
  obtain rfl := Option.some.inj (hy.symm.trans hty)
  obtain ⟨xs, n, rfl, hx, hl, hxl, hall⟩ := DataW.trod_struct ht hd
  have e := congrArg Prod.fst hx
  simp only [DataW.agg.injEq] at e
  have h0 := hall 0 f hf
  rw [ho, hc] at h0
  cases xs with
  | nil => simp at e
  | cons y ys =>
    simp only [List.map_cons, List.cons.injEq] at e
    simp only [List.getElem?_cons_zero, List.drop_zero] at h0
    obtain ⟨z', hz, hyz, _⟩ := DataW.trod_int hk h0
    have e1 := e.1
    rw [hyz] at e1
    simp only [DataW.lit.injEq, Lit.int.injEq, true_and] at e1
    rw [World.var?_cell hn hvar 0, ← Array.getElem?_toList]
    have := congrArg (·[0]?) hz
    simp only [List.getElem?_take, List.getElem?_cons_zero] at this
    rw [e1]; simpa using this
theorem floats_of_reads {P : Program} {w : World} {name : String} {g : Nat} {t e : TypeId} {k : FloatKind} {l : List (DataW Unit)} {z : Nat} {i : Nat} (hn : P.globalNamed name = some g) (hy : (P.globals[g]?).map (·.type) = some t)
    (ht : P.underlying t = some (.slice e)) (he : P.underlying e = some (.float k)) (hc : P.cellsOf e = 1) (hi : l[i]? = some (.lit (.float k z))) (h : VarReads P w name (.slice l [])) :
    ∃ R o c : Nat, w.cell? ⟨g, 0, none⟩ = some (.slice (some ⟨R, o, none⟩) l.length c) ∧ w.cell? ⟨R, o + i, none⟩ = some (.float k z) := by
  obtain ⟨g', t', cs, fuel, p, hg, hty, hvar, hd⟩ := h
  obtain rfl := Option.some.inj (hn.symm.trans hg)
  obtain rfl := Option.some.inj (hy.symm.trans hty)
  rcases DataW.trod_slice ht hd with ⟨_, hx⟩ | ⟨a, len, cap, el, rs, m, rfl, hcs, hx, _, hlc, _, hel, helem, hsp, _⟩
  · cases hx
  have e0 := congrArg Prod.fst hx
  simp only [DataW.slice.injEq] at e0
  obtain ⟨eE, eR⟩ := e0
  have hlen : len = l.length := by
    have := congrArg List.length eE
    simp at this
    omega
  have hlt : i < l.length := (List.getElem?_eq_some_iff.1 hi).1
  have h1 := helem i (by omega)
  rw [hc, Nat.mul_one] at h1
  obtain ⟨b, hb⟩ : ∃ b, el[i]? = some b := ⟨el[i]'(by omega), List.getElem?_eq_getElem (by omega)⟩
  rw [hb] at h1
  obtain ⟨ce, hce, hte⟩ := Option.bind_eq_some_iff.1 h1
  obtain ⟨z', hz, hbz⟩ := trod_float he hte
  have hb1 : (DataW.lit (.float k z) : DataW Unit) = b.1 := by
    have := congrArg (·[i]?) eE
    rw [List.getElem?_map, hb] at this
    rw [hi] at this
    simpa using this
  rw [hbz] at hb1
  simp only [DataW.lit.injEq, Lit.float.injEq, true_and] at hb1
  obtain ⟨_, _, hcc⟩ := World.cells?_some hce
  have h2 := hcc 0 (by omega)
  rw [hz, ← hb1] at h2
  have e1 : (a.add i).add 0 = a.add i := by simp [Addr.add]
  rw [e1] at h2
  have hcell : w.cell? (a.add i) = some (.float k z) := h2
  obtain ⟨R, o, sR⟩ := a
  obtain rfl : sR = none := by
    have h3 := helem 0 (by omega)
    rw [hc, Nat.zero_mul, List.getElem?_eq_getElem (show 0 < el.length by omega)] at h3
    obtain ⟨ce2, hce2, _⟩ := Option.bind_eq_some_iff.1 h3
    obtain ⟨_, _, hcc2⟩ := World.cells?_some hce2
    have h4 := hcc2 0 (by omega)
    have e2 : ((Addr.add ⟨R, o, sR⟩ 0).add 0) = ⟨R, o, sR⟩ := by simp [Addr.add]
    rw [e2] at h4
    cases ce2 with
    | nil => simp at hcc2; rename_i q; simp at q
    | cons v vs => exact Go.Proofs.cell_spot h4
  refine ⟨R, o, cap, ?_, ?_⟩
  · rw [World.var?_cell hn hvar 0, ← Array.getElem?_toList, hcs, hlen]
    rfl
  · rwa [Addr.add_lit] at hcell
end Go.Proofs.YtnccpddjdgndcaaGreatDoor.Pf
end

section
/- THE WALK OF strconv.parseFloat64: digits and a power of ten, scaled and rounded. -/
namespace Go.Proofs.YtnccpddjdgndcaaGreatDoor.Pf
open Go.RowKit Go.Proofs.YtnccpddjdgndcaaGreatDoor.Fmt
theorem sfrom_call (n : Int) (w : World) : (callFunc 157 #[.int .u64 n]).run Tryz.prog w = .ok (.value (.float .f64 n.toNat)) w :=
  run_callFunc_extern (e := Extern.MathFloatBits.float64frombits) Tryz.func157 (by kernel_rfl) (by kernel_rfl) (by kernel_rfl) (by kernel_rfl) _ w
theorem unmin_53 (w : World) : Calls Tryz.prog 173 #[.int .u64 9007199254740992] w fun e w' => e = .returned (.int .u64 36028797018963966) ∧ w = w' := by
  go_enter Tryz.func173, Tryz.ntmps173
  go_wp2
  go_ret
  exact ⟨rfl, rfl⟩
theorem bool2i_any (b : Bool) (w : World) : Calls Tryz.prog 119 #[.bool b] w fun e w' => e = .returned (.int .i64 (if b then 1 else 0)) ∧ w = w' := by
  cases b
  all_goals
    go_enter Tryz.func119, Tryz.ntmps119
    go_wp2
    go_ret
    exact ⟨rfl, rfl⟩
/-- bits and error of a mantissa and an exponent -/
def packB (m : Int) (e : Int) : Int × Bool :=
  if bits .and .u64 m 4503599627370496 = 0 then (m, false)
  else if 972 ≤ e then (bits .or .u64 (bits .and .u64 m 9223372036854775808) 9218868437227405312, true)
  else (bits .or .u64 (bits .andNot .u64 m 4503599627370496) (IntKind.u64.wrap (IntKind.u64.wrap (1075 + e) * 4503599627370496)), false)
def errV (b : Bool) : Value := if b then .iface 106 (.int .i64 1) else .nilIface
set_option maxRecDepth 20000 in
theorem pack_any (m e : Int) (he0 : -5000 ≤ e) (he1 : e ≤ 5000) (w : World) : Calls Tryz.prog 192 #[.int .u64 m, .int .i64 e] w fun e' w' => e' = .returned (.tuple #[.float .f64 (packB m e).1.toNat, errV (packB m e).2]) ∧ w = w' := by
  have hp : packB m e = packB m e := rfl
  conv at hp => rhs; unfold packB
  generalize packB m e = R at *
  by_cases h1 : bits .and .u64 m 4503599627370496 = 0
  · rw [if_pos h1] at hp
    subst hp
    have h2 : (bits .and .u64 m 4503599627370496 == 0) = true := by simpa using h1
    go_enter Tryz.func192, Tryz.ntmps192
    go_wp2_with (first | (simp only [sfrom_call]) | fail)
    go_returns
    exact ⟨rfl, rfl⟩
  · rw [if_neg h1] at hp
    have h2 : (bits .and .u64 m 4503599627370496 == 0) = false := by simpa using h1
    by_cases h3 : 972 ≤ e
    · rw [if_pos h3] at hp
      subst hp
      go_enter Tryz.func192, Tryz.ntmps192
      go_wp2_with (first | (simp only [sfrom_call]) | fail)
      go_returns
      exact ⟨rfl, rfl⟩
    · rw [if_neg h3] at hp
      subst hp
      go_enter Tryz.func192, Tryz.ntmps192
      go_wp2_with (first | (simp only [sfrom_call]) | fail)
      go_returns
      exact ⟨rfl, rfl⟩
end Go.Proofs.YtnccpddjdgndcaaGreatDoor.Pf
end

section
/- THE TABLE OF TENS AND FRACTIONS: a scaled number is near a whole one only where it is one. No walk. -/
namespace Go.Proofs.YtnccpddjdgndcaaGreatDoor.Nt
open Go.Proofs.YtnccpddjdgndcaaGreatDoor.Fmt
def certs : List (Nat × Nat) := [
  (49862782167533620, 136731968122592083), (79780451468053792, 116786855255578635), (132262837463289352, 23357371051115727), (113634299718216631, 46714742102231454), (64139616728179234, 90649543316656965), (129649106269397185, 18129908663331393), (25929821253879437, 124379277161084446), (122355210375296202, 79813530547426555), (138241307092507966, 15962706109485311), (128724970940635617, 31925412218970622), (19359911744332999, 139243827285766982), (54952641899219595, 142370920619546384), (43962113519375676, 131380392239702465), (35372070142870366, 122790348863197155), (141488280571481464, 24558069772639431), (82325409614103041, 98232279090557724), (56316206005409623, 88129944958318989), (40152471393827647, 136107418522810331), (37022470525562169, 123587415049748419), (88961437240073919, 138503911238698000), (122521309984668638, 116662219487813519), (28019716295046799, 116662219487813519), (10291215656493455, 141828005108426752), (2058243131298691, 143313935386176662), (4116486262597382, 140066948032678043), (107071208869278754, 37069659384249849), (14000309897005781, 134278327639993615), (82856905116021847, 109712570644020570), (104799419244825961, 87770056515216456), (13623490183687604, 131263769933448199), (50775036317327327, 97831148217231565), (89907495604219953, 78264918573785252), (135184555470255695, 44630435738184211), (108147644376204556, 98704257926286489), (66777263915706347, 98704257926286489), (112644365888336971, 84764149964236007), (56209832724975174, 140973982689211181), (16773069642137903, 140973982689211181), (136261483650362009, 102715344366086203), (67923049173855126, 102715344366086203), (95424577085518582, 102715344366086203), (135052561375839539, 46918751570888578), (88133809804950961, 90415287139681439), (126125106528607919, 109410935501509918), (73849882049380369, 80843079990368734), (143503845334167719, 2797279176395346), (117040899608450452, 32057504078507959), (4173677474585315, 143770740814260167), (3338941979668252, 143770740814260167), (116273675167865302, 51458953624596147), (141806740175153787, 89954962940538463), (95454399552015337, 89954962940538463), (132536272050526097, 15791217943516943), (142576676329367206, 15791217943516943), (37990066031983607, 139145003838034986), (70945170915550381, 81015093212384047), (46595071468063695, 137680086977281408), (74552114348901912, 109723044096443191), (97338774138954421, 103530909117698806), (97338774138954421, 102292482121949929), (97338774138954421, 124732461739538118), (97338774138954421, 60850459736048726), (7297662880581139, 141234558616058958), (29190651522324556, 116334659067188923), (34943192422367607, 127839740867275025), (95454333018190219, 51135896346910010), (44318436671280209, 126135870826336225), (94772785001814699, 100908696661068980), (94772785001814699, 80726957328855184), (100391116070998505, 77917791794263281), (118074238222662683, 37761345365863879), (8510309498186985, 142535071965268531), (1702061899637397, 142872302534633606), (6808247598549588, 139889308743212485), (96060337734138377, 68827347339940025), (123591276670114387, 110123755743904040), (79541774372552771, 88099004595123232), (102295913425119694, 125050052477686617), (36367537559534493, 127384093769802185), (72735075119068986, 87321175067455367), (133840355204001451, 110580765135728409), (36071907068109507, 138570443066801227), (128715428404066865, 113143228535695702), (25743085680813373, 143655885973022332), (17606377030859605, 135519177323068564), (3521275406171921, 140651312988675262), (14085101624687684, 135881290026595835), (137869180514708237, 27176258005319167), (122756160004384178, 27176258005319167), (141501741219838839, 54352516010638334), (17429845041840101, 130260838833352831), (97421932642125395, 125124485116890386), (38968773056850158, 113858264534805219), (117515930097699525, 38359162129701107), (94012744078159620, 53215138239862309), (75210195262527696, 109622784686758081), (143537872640209315, 13765035769692154), (14942538758349709, 140005363674236650), 
  (42943611493197039, 112004290939389320), (85887222986394078, 87745327868952767), (131473621154042720, 18292307526814029), (141763511976862234, 18292307526814029), (67680789306833311, 104265404360461369), (133166202293497500, 35486926893543497), (115386648269641997, 124240334704485994), (94080055902682397, 102933742337526394), (94080055902682397, 51797920656823354), (94080055902682397, 79070358886531642), (94080055902682397, 82072298289761793), (58849585064193559, 105295011515330027), (58849585064193559, 119545760250780157), (70250184052553663, 94897972151666910), (51270589622220281, 100566165820446775), (91497055950398991, 80452932656357420), (91497055950398991, 64362346125085936), (10853883930125222, 134151634215234483), (130418846607716711, 58002207258143882), (89851749416258803, 107286859482944777), (129279471196099519, 28431415923263345), (106534338457488843, 45490265477221352), (121619683147768156, 136705027838047469), (139909481901210062, 33375143443721219), (131952671587200781, 66750286887442438), (131952671587200781, 132571832462274419), (131952671587200781, 79666931652379379), (89628750939284749, 69705112365474009), (85644023224522601, 69705112365474009), (54574196106523279, 124279308471997288), (97043659205885974, 60626562610103571), (63068088726395818, 89719080857009233), (142126772731159685, 10660396852245366), (74615666786450445, 78171502796954606), (29846266714580178, 141419872236619123), (119385066858320712, 52160987818987967), (107558526462932392, 52160987818987967), (11079507728788885, 142166904903218558), (2215901545757777, 143214522827381048), (4431803091515554, 140719256501846607), (17727212366062216, 131848043641833285), (96836038551162187, 105478434913466628), (15910249165310661, 132780167559678172), (31820498330621322, 119935113518176045), (55807521034256531, 95948090814540836), (134920830620400653, 16056227912113722), (62307867530730319, 126532779179185207), (124615735061460638, 38151538165528019), (134278266807541558, 47814069911608939), (111088190616947350, 135712184337962081), (88870552493557880, 135712184337962081), (71096441994846304, 100163963340538929), (53655929187430729, 100163963340538929), (125915072036104738, 81560749679295649), (118473786571607426, 74119464214798337), (135863446998121322, 20776921214557517), (108365373957098073, 41553842429115034), (98262298317550871, 88159222678003669), (98262298317550871, 101749836957785522), (117217250253014115, 41397442511161139), (93773800202411292, 88284342612366785), (134576994837402513, 70627474089893428), (12789904149501817, 141820950715053725), (105103615040021647, 53943998442014379), (31252646327605783, 122018054785240167), (123813573100349946, 123215066995313353), (99290260922294594, 98691754817258001), (119986221653804743, 79192806295821038), (103668855510611261, 71034123224224297), (125555558343023587, 71034123224224297), (136459845366783445, 49225549176704581), (109167876293426756, 103809487323417959), (133144807140115626, 18618541876680073), (56981631231382265, 131455798738102557), (11396326246276453, 138348102579010826), (45585304985105812, 125678026233779661), (138971492699624991, 43369727240798257), (45142189436244301, 121246870745164551), (90284378872488602, 75584061959812401), (51230563940957921, 99937559978666881), (41489164733416129, 119420358393750465), (41489164733416129, 137025451448416501), (82978329466832258, 112895011206149181), (93590659012335325, 102282681660646114), (18718131802467065, 128358749605578481), (3743626360493413, 142815988733466037), (29949010883947304, 137877087473100867), (99453043616093703, 79110043696398190), (67809026137534427, 131097061094652979), (69617422609700777, 132001259330736154), (66723988254234617, 127661107797536914), (133447976508469234, 64409240769861689), (110461977181772072, 64409240769861689), (31302942718736491, 128818481539723378), (31302942718736491, 121836550863020597), (143808343983906221, 11846133085109523), (143477394591387832, 11846133085109523), 
  (54756971705518517, 102141504045956609), (2948975746032170, 143829005298253733), (2359180596825736, 142649414999840865), (42684966580922589, 118618177355464823), (29385668903474731, 141354197420215625), (117542675613898924, 28270839484043125), (142228964440695446, 5654167896808625), (141098130861333721, 4523334317446900), (139288797134354961, 7237334907915040), (142183731097520977, 5789867926332032), (143076131160878429, 23159471705328128), (143076131160878429, 8439928496349319), (133028747620671245, 141468676117020564), (106422998096536996, 61651427544617817), (60477827459382470, 93063941359544399), (48382261967505976, 105159506851420893), (88767068124792545, 72772156504353731), (142027308999668072, 72772156504353731), (70661954098930097, 73475557306161609), (70661954098930097, 87045227484501326), (137847915177618811, 20685700174014511), (44118143174735371, 126860943870793415), (125728195150624118, 25372188774158683), (105656993875331031, 50744377548317366), (134436324892842931, 112471278362037465), (89447813548027945, 89977022689629972), (71558250838422356, 126285357250443177), (136384043906284098, 61459564182581435), (124092131069767811, 49167651346065148), (74924479723702663, 108638034043185302), (73425005506755186, 107138559826237825), (143706038270287789, 21427711965247565), (137418092783842623, 17142169572198052), (99480730760000343, 68568678288792208), (6182410494241627, 138261682281853038), (12364820988483254, 134102505703600613), (142667713398519674, 46604214722293329), (123455013663274405, 46604214722293329), (24691002732654881, 137034853423863554), (24691002732654881, 135306356187155091), (49382005465309762, 118319149579764727), (142378306569675076, 13787428822890993), (114858523684012201, 55149715291563972), (139653865661168344, 79945057268720115), (135406628238640481, 31978022907488046), (84641766881206579, 86540649497491210), (50025507082210095, 119258026680203063), (20010202832884038, 128459937779543917), (110377391707702675, 49704230955369629), (93855187638450699, 99408461910739258), (76194804965218271, 81748079237506830), (141593268355223735, 130796926780010928), (28318653671044747, 126726555725417254), (113274614684178988, 98973810689799793), (11440643195503356, 137884244603206967), (57322521228950119, 126204990904836933), (121581011526062255, 126204990904836933), (116957032147287577, 77572586294412031), (124594660235594874, 77572586294412031), (3294312317590731, 141967923318461138), (66011243816638502, 85839616454594829), (122785913397540569, 104312764926067699), (126480543091835143, 111702024314656847), (126480543091835143, 128131021666716898), (126480543091835143, 127800925951740547), (24767955474404867, 129121308811645951), (96230843378587141, 142925775808364548), (119454381980949827, 37924141647628391), (8721219737138609, 142975346853374955), (120670087060579409, 28595069370674991), (118154163229427631, 115638239398275853), (118154163229427631, 45248926226849630), (127203948474797557, 36199140981479704), (7442610212143378, 141075258819847127), (74292368037082958, 96553331631337681), (10406280888565647, 141075258819847127), (57352638251953237, 88807667647334535), (132466810033373381, 35523067058933814), (134391901673845756, 136316993314318131), (143652846716987137, 1540073312377900), (143960861379462717, 1232058649902320), (143960861379462717, 985646919921856), (50082145746204633, 108049466851784114), (116488860929150071, 66406715182945438), (113223947041801910, 63141801295597277), (131076169520678423, 80994023774473790), (98678560010888907, 64795219019579032), (6776668198261975, 143977516707862553), (10842669117219160, 135845514869948183), (8674135293775328, 142351116340279679), (75310553854442707, 115924566533784102), (42819343710969591, 107801763997915823), (77376180567942002, 107801763997915823), (114411769481113567, 33730586171572693), (142679123100482873, 4102115041035441), (46585130800652515, 109578721765446794), (18634052320261006, 135304208089719061), (74536209281044024, 116504292755196641), 
  (76416200814496266, 122144267355553367), (94829081378559765, 70278573959808433), (108210206511232339, 140557147919616866), (134320000727910310, 32346941408384527), (139802941990712775, 32346941408384527), (27960588398142555, 129387765633538108), (11184235359257022, 142879177999042195), (44736941437028088, 106865483114607593), (121785115975568363, 57162649772543989), (2983926572192154, 143608691782699567), (47818868418569699, 131520898966940481), (11950914941467663, 143471813908408144), (90851287399472714, 88473271333338419), (951206426453718, 143178714527569849), (108926424236721885, 71349340922542966), (81147653008867673, 93134625769887343), (90737231217683409, 100326809426499145), (50606507447083751, 130867954988283067), (38744531409437525, 124936966969459954), (132685873251347459, 101690248123797439), (132685873251347459, 107889373149307443), (125985898682709980, 44896423807952453), (100788718946167984, 95290783281036445), (136340682597769890, 19058156656207289), (128130702734423201, 38116313312414578), (86612241846747965, 65853011402910347), (17322448369349593, 142154907026194237), (69289793477398372, 118507712925856731), (142978668010141416, 51417459976130695), (132695176014915277, 41133967980904556), (133487351953334901, 31048519970283323), (0, 0), (0, 0), (0, 0), (0, 0), (0, 0), (0, 0), (0, 0), (0, 0), (0, 0), (0, 0), (0, 0), (0, 0), (0, 0), (0, 0), (0, 0), (0, 0), (0, 0), (0, 0), (0, 0), (0, 0), (0, 0), (0, 0), (0, 0), (0, 0), (0, 0), (0, 0), (0, 0), (0, 0), (0, 0), (0, 0), (0, 0), (0, 0), (0, 0), (0, 0), (0, 0), (0, 0), (0, 0), (0, 0), (0, 0), (0, 0), (0, 0), (0, 0), (0, 0), (0, 0), (0, 0), (0, 0), (0, 0), (0, 0), (0, 0), (0, 0), (0, 0), (0, 0), (127303464845611401, 19878221219133763), (124934648107946413, 54897030182071313), (110927124522771393, 54897030182071313), (77309067918351345, 109794060364142626), (15461813583670269, 136185430896968096), (30923627167340538, 137967965710606691), (123694508669362152, 77071396609866199), (89630984523590531, 86015744928189156), (91077080361751081, 88184888685429981), (89341765355958421, 87028012014901541), (89804516024169797, 86102510678478789), (37402608547944322, 123505119226423111), (79324134528924702, 123505119226423111), (45786913744140398, 111255426267067017), (122982295490522279, 62816936004482966), (99976782303484015, 51314179410963834), (79981425842787212, 122623715282624471), (46928224898294866, 136498739236426991), (64842327765921291, 136498739236426991), (107836174648224711, 114650258352809120), (39046019636539239, 130766226318786535), (130030833282399649, 26153245263757307), (124358948407816056, 26153245263757307), (96819420837889575, 52306490527514614), (19363884167577915, 131770425439746796), (15491107334062332, 135739215373479353), (107701601211819997, 45737171875570669), (107701601211819997, 79670377985184534), (134848166099511089, 52523813097493442), (140808274080415930, 58483921078398283), (112646619264332744, 58483921078398283), (125207648058505165, 58483921078398283), (100166118446804132, 91926312545095533), (138584604645184065, 15089340148335667), (27716920929036813, 143508123380453107), (97811507850424910, 61961929790934797), (101086532931104761, 123923859581869594), (67166830354424909, 90004157005189742), (112034393897232821, 134871720547997654), (98762445778092190, 121599772428857023), (79009956622473752, 141352261584475461), (131480781600006997, 21603391652706275), (131480781600006997, 17282713322165020), (141850409593306009, 13826170657732016), (121058289466086847, 117575314731343274), (96150036625920763, 92667061891177190), (77616624247685325, 74133649512941752), (124186598796296520, 120703624061552947), (99349279037037216, 95866304302293643), (58912972475273615, 132819636129313671), (94260755960437784, 132819636129313671), (143105433502925277, 90832156835900582), (143105433502925277, 101286812169305521), (77499535835031215, 95149105337097224), (61999628668024972, 110649012504103467), (104539503801618546, 71729505435240671), 
  (111101503474894121, 58605506088689521), (111101503474894121, 69104705565930441), (94302784311308649, 60705345984137705), (94302784311308649, 97128553574620328), (112598187320908043, 39416575282510467), (121611810082734808, 39416575282510467), (132184792527399627, 32205677073049055), (106420250868960383, 51529083316878488), (114036400144173355, 92079933123340597), (91229120115338684, 137694493181009939), (63349896275935931, 137694493181009939), (103558774167325105, 57276737398231591), (20711754833465021, 125548175425601259), (115730297782441891, 49963740885278277), (43131555910599689, 113591851719913730), (106676297387816321, 65849926254582435), (80336326885983347, 105359882007331896), (133542834041843065, 79283194581595807), (106834267233474452, 79283194581595807), (112344481763850181, 68262765520844349), (3980133393033463, 140505664434722161), (56998292452495557, 106036318118924188), (113996584904991114, 73429396004640239), (138336898245201639, 105883147124920939), (125355397797089359, 99392396900864799), (120162797617844447, 78621996183885151), (120162797617844447, 134995275517814789), (120162797617844447, 35898541843545163), (26525993941010681, 143594167374180652), (26525993941010681, 125485731475748794), (136506320847394619, 30402345083351895), (138633859272663083, 12160938033340758), (98260212447909013, 48643752133363032), (29380792916254409, 135813422700943310), (58761585832508818, 142467747829140551), (140824281293648066, 4988915232824583), (137150139289217471, 9977830465649166), (35412292230362827, 110735906323322318), (35412292230362827, 127600240994807751), (35412292230362827, 123327568134063897), (123819931871828695, 105990694822206082), (134714419596708182, 31698735699108865), (141054166736529955, 25358988559287092), (53569821906593083, 101435954237148368), (78419964414852995, 116712870279297223), (31367985765941198, 123637790377800253), (112557918220195405, 99643893376626018), (22511583644039081, 121803637691835714), (45023167288078162, 125260839466467161), (133107769384681021, 86122869617049394), (46984899767631627, 128399611433752705), (136579754497025426, 25679922286750541), (124899655589057141, 102719689147002164), (33851917694633419, 127227527715260955), (135407670778533676, 93149340932319029), (45711402342170541, 144040352018423411), (117468417091261049, 130754384554842230), (117468417091261049, 104603507643873784), (2572981889477453, 143104968401407665), (90372559027740405, 69788703911920781), (18074511805548081, 134558721203298476), (18074511805548081, 129336391129296478), (18074511805548081, 138255080945791657), (18074511805548081, 135908381284400639), (18074511805548081, 141260826277507057), (36149023611096162, 132417280094304763), (79605335832240255, 69862284352176347), (133546553017968551, 69862284352176347), (54654224344464249, 115486464375312641), (88682362088419627, 94860377774803770), (139420573066917746, 107654437643380381), (6353227084707473, 138369304676977766), (25412908338829892, 132857092304222277), (123140470148398045, 21488836793078477), (70745024852437695, 113722698438594649), (28298009940975078, 129463679433165199), (113192039763900312, 93807959744973227), (109315223760114895, 93807959744973227), (87452179008091916, 122026785233877517), (21151029112922526, 143177814346800043), (74191949029058038, 143177814346800043), (138228881135367071, 13797173063548401), (140936885648100139, 13797173063548401), (130879488802401421, 27594346127096802), (56452216379763411, 92402328465512609), (119083635876220816, 62631419496457405), (138124878224013277, 12526283899291481), (97772165480834949, 100210271194331848), (116838977434302559, 40571729620432119), (116838977434302559, 55825179183206207), (59976074437518323, 111650358366412414), (13655572989228511, 130659713836245204), (141211464052198273, 28863057365094743), (118741782714777567, 28863057365094743), (30178878666854181, 115452229460378972), (134612213701899031, 104433335035044850), (134612213701899031, 83546668028035880), 
  (117902880096291855, 133674668844857408), (23580576019258371, 133828883052037325), (94322304077033484, 73926928648924207), (83615993432870498, 84633239293087193), (144035548698916688, 203449172043339), (67177623587157073, 135169043862487502), (93885913684385231, 67991420275330429), (93885913684385231, 129501867167772528), (60862349554153266, 96478303037540563), (34443498249967694, 122897154341726135), (59022929118312921, 98317723473380908), (114067936249692479, 55045007131379558), (142450614281337683, 44831590102490319), (100220667020252047, 79105693389709229), (24267128130158973, 133944258649259485), (48534256260317946, 131422535049566561), (127826402009872892, 16577655757849723), (119797746176333015, 62036123069243969), (47919098470533206, 128346746100642861), (143419805304067031, 16085529526021931), (41552384681630951, 105894502785718675), (102672837055092599, 42357801114287470), (119615957500807587, 33886240891429976), (98878567213628533, 78141176926449479), (110359324541482618, 78141176926449479), (32218147615033139, 137913142128332422), (113157922558392619, 48721627328326341), (129503639909375168, 16345717350982549), (126486916218875703, 32691434701965098), (37518192606764242, 121660158314076559), (140748015806947353, 9324754620109615), (143154989496025403, 1864950924021923), (140438807009787927, 3729901848043846), (112383543167748505, 127303150559923889), (22476708633549701, 141833567770952773), (89906834534198804, 82310814274709837), (127388772399776119, 104849793337242978), (67417671814852415, 97203956734567259), (53934137451881932, 124171025460508225), (136968207263544151, 78768342543983577), (136968207263544151, 98635706617664893), (50393141840236385, 98635706617664893), (20157256736094554, 126721014658998847), (73721619098426699, 133628422504950364), (49758897735817233, 97684340461036165), (119054663563841699, 39073736184414466), (31625679949651233, 122835809777408330), (63251359899302466, 144011363759917031), (142654720570727845, 32304001544245826), (117896833886682533, 125442948746883047), (138457754719938834, 28107035693456815), (144079161858630197, 22485628554765452), (144079161858630197, 93608670431076802), (123890965287608839, 83514572145566123), (131413886743721244, 58184021915748217), (64202359080638141, 116368043831496434), (20062476413995537, 124393845915712123), (77845005345878601, 115565057863766128), (125032988615426471, 30657022076330731), (68407408691969027, 122628088305322924), (136814817383938054, 62732717060522975), (135617657234725563, 25093086824209190), (110524570410516373, 40148938918734704), (6045338514609393, 142459740131110637), (142985416975013596, 65447369972897405), (77538047002116191, 104715791956635848), (25579669809942545, 131094499338866949), (5115933961988509, 140682950206329621), (40927471695908072, 116130654187468279), (95565227710076998, 61492898173299353), (88750761802721469, 61492898173299353), (84694623259728070, 118929657803605307), (67755698607782456, 85051808499714079), (74388394372566298, 98317200029281763), (143991027613789503, 19143044525372372), (130507257711329500, 117023487808869497), (104405806169063600, 117023487808869497), (133550446996883143, 33498842873618617), (133639431896401408, 33498842873618617), (33427654954004005, 133995371494474468), (13371061981601602, 141535157520650613), (53484247926406408, 97836553808458453), (142973302294342360, 8870461176410409), (140990025364705115, 8870461176410409), (130532942644584910, 83007393675113273), (104426354115667928, 83007393675113273), (108710146203778859, 91574977851335135), (72080155063244805, 74439809498891411), (28832062025297922, 134463587985133861), (115328248101191688, 38425542407145941), (115317923925240915, 76851084814291882), (92254339140192732, 53787500029243699), (26144235650228353, 133719235708715751), (137149248364217030, 101146929945412133), (109719398691373624, 128576779618255539), (140930976120760239, 3771476185376383), (143271380952011233, 3771476185376383), (137272790329242077, 15085904741505532), 
  (88398036094147459, 79046563718105682), (60519999557321897, 116276072630973021), (121039999114643794, 34406429140924829), (120793000266081037, 86139572276593451), (128316483100529171, 20594457714842346), (21544405077137365, 125466641013644114), (138393284059926533, 121157759998216641), (137884192493679136, 13890237562617393), (143643924145225052, 13890237562617393), (122300972149940253, 59287307466803275), (114169867872913301, 47429845973442620), (133141806262290349, 37943876778754096), (34217136608208889, 117558370506807495), (91945947317779277, 94046696405445996), (36358229109578367, 113276185504068539), (80828403676139095, 97052294590103817), (64662722940911276, 97052294590103817), (6454630258343747, 142933228543352882), (91842022240439297, 66023501207064309), (23532108654762857, 132047002414128618), (15948395095747419, 140411683950860599), (90626368408815327, 99570631084090544), (139635631848939393, 74289947262107305), (109919652944096471, 118863915619371688), (109919652944096471, 51123271317858762), (134972827656267344, 42433239115962799), (103374395939986507, 132717121047729378), (65093881687343483, 94436606795086354), (130187763374686966, 24755866380565845), (105431896994121121, 39609386208905352), (36930133882386365, 121507410953235043), (29544107105909092, 136279464506189589), (143723356494027050, 15438250058874281), (103804092774233663, 134680592891982225), (49931855617440773, 107744474313585780), (93029645342875085, 79361513558862163), (37211858137150034, 140117098049149309), (53842668291900213, 95004764256699923), (107685336583800426, 86772345063739981), (95137541671764159, 78407148455715803), (123154322410840809, 78407148455715803), (78327473228318169, 111987447728908966), (76125968382890854, 109785942883481651), (77887172259232706, 113308350636165355), (55225502131999635, 90646680508932284), (101691780935332211, 115022758459465006), (142813768763499503, 2666195504826559), (141979448260995816, 2666195504826559), (121846949622166366, 71588256830389419), (38687041290511157, 131604862159513048), (120689784472039787, 34058380690004841), (21029209236812042, 125718918141613343), (100757669424994238, 109078085663867273), (102421752672768845, 109078085663867273), (13828017543455341, 136218769189519470), (68315525219263129, 108975015351615576), (68315525219263129, 141832432456702964), (38908762324287195, 117627051579903736), (31127009859429756, 125408804044761175), (56208770668381991, 100327043235808940), (116404996609867355, 44118272567426949), (23280999321973471, 129911091625760854), (23280999321973471, 122553672758187460), (91894262058229863, 94353732517557905), (129635755065253025, 75482986014046324), (103708604052202420, 49555835000995719), (12669327430325733, 140595111622872406), (35720618782769921, 127925784192546673), (35720618782769921, 123772998623699291)]
/-- a row as one number; ten to it, scaled; the unit of the scale -/
def pm (i : Nat) : Nat := hiT i * 18446744073709551616 - loT i
def pw2 (e : Int) : Nat := 2 ^ (e + 2000).toNat
def pw10 (p : Int) : Nat := 10 ^ (p + 400).toNat
def gT (i : Nat) : Nat := pw2 0 * pw10 ((i : Int) - 348)
def kT (i : Nat) : Nat := pw2 (lg2 ((i : Int) - 348) - 127) * pw10 0
def chk (i : Nat) : Bool :=
  if 324 ≤ i ∧ i ≤ 375 then decide (288230376151711744 * kT i ≤ Nat.gcd (gT i) (85070591730234615865843651857942052864 * kT i))
  else
    let y := certs.getD i (0, 0)
    let p := pm i
    let n1 := y.1 * p / 85070591730234615865843651857942052864
    let n2 := y.2 * p / 85070591730234615865843651857942052864 + 1
    decide (n2 * y.1 = n1 * y.2 + 1) && (decide (144115188075855872 ≤ y.1 + y.2) && (decide (n1 * 85070591730234615865843651857942052864 + 144115188075855872 < y.1 * p) && decide (y.2 * p + 144115188075855872 ≤ n2 * 85070591730234615865843651857942052864)))
theorem chk_all : ∀ i, i < 696 → chk i = true := by decide +kernel
theorem pm_near : ∀ i, i < 696 → gT i ≤ pm i * kT i ∧ pm i * kT i < gT i + kT i := by decide +kernel
theorem lo_lt : ∀ i, i < 696 → loT i < 18446744073709551616 := by decide +kernel
end Go.Proofs.YtnccpddjdgndcaaGreatDoor.Nt
end

section
/- A SCALED NUMBER TELLS ON WHICH SIDE OF A QUARTER THE EXACT ONE STANDS. No walk. -/
namespace Go.Proofs.YtnccpddjdgndcaaGreatDoor.Nt
open Go.Proofs.YtnccpddjdgndcaaGreatDoor.Fmt
/-- between two fractions that are neighbours none has a smaller denominator than both together -/
theorem apart_int (P T W Y n1 y1 n2 y2 y n : Int) (hdet : n2 * y1 = n1 * y2 + 1) (hY : Y ≤ y1 + y2) (h1 : n1 * T + W < y1 * P) (h2 : y2 * P + W ≤ n2 * T) (_hW : 0 ≤ W)
    (hp1 : 0 ≤ y1) (hp2 : 0 ≤ y2) (hy0 : 1 ≤ y) (hy : y < Y) (ha : n * T < y * P + W) (hb : y * P ≤ n * T + W) : False := by
  obtain ⟨α, hα⟩ : ∃ α, α = y * n2 - n * y2 := ⟨_, rfl⟩
  obtain ⟨β, hβ⟩ : ∃ β, β = n * y1 - y * n1 := ⟨_, rfl⟩
  have e1 : α * y1 + β * y2 = y := by subst hα hβ; grind
  have e2 : α * (y1 * P - n1 * T) - β * (n2 * T - y2 * P) = y * P - n * T := by subst hα hβ; grind
  have g1 : W < y1 * P - n1 * T := by omega
  have g2 : W ≤ n2 * T - y2 * P := by omega
  clear hα hβ h1 h2 hdet
  generalize y1 * P - n1 * T = E1 at *
  generalize n2 * T - y2 * P = E2 at *
  rcases Int.lt_or_le 0 α with a | a <;> rcases Int.lt_or_le 0 β with b | b
  · have := Int.mul_le_mul_of_nonneg_right (show 1 ≤ α by omega) hp1
    have := Int.mul_le_mul_of_nonneg_right (show 1 ≤ β by omega) hp2
    omega
  · have i1 := Int.mul_le_mul_of_nonneg_right (show 1 ≤ α by omega) (show 0 ≤ E1 by omega)
    have i2 := Int.mul_le_mul_of_nonneg_right b (show 0 ≤ E2 by omega)
    omega
  · have i1 := Int.mul_le_mul_of_nonneg_right (show 1 ≤ β by omega) (show 0 ≤ E2 by omega)
    have i2 := Int.mul_le_mul_of_nonneg_right a (show 0 ≤ E1 by omega)
    omega
  · have i1 := Int.mul_le_mul_of_nonneg_right a hp1
    have i2 := Int.mul_le_mul_of_nonneg_right b hp2
    omega
theorem apart (P T W Y n1 y1 n2 y2 y n : Nat) (hdet : n2 * y1 = n1 * y2 + 1) (hY : Y ≤ y1 + y2) (h1 : n1 * T + W < y1 * P) (h2 : y2 * P + W ≤ n2 * T)
    (hy0 : 1 ≤ y) (hy : y < Y) (ha : n * T < y * P + W) (hb : y * P ≤ n * T + W) : False :=
  apart_int P T W Y n1 y1 n2 y2 y n (by exact_mod_cast hdet) (by exact_mod_cast hY) (by exact_mod_cast h1) (by exact_mod_cast h2) (by omega) (by omega) (by omega) (by omega) (by omega) (by exact_mod_cast ha) (by exact_mod_cast hb)
/-- two multiples of c that stand nearer than c are one -/
theorem mult_eq (c a b x y : Nat) (hx : x = c * a) (hy : y = c * b) (h1 : x < y + c) (h2 : y < x + c) : x = y := by
  have a1 : a < b + 1 := Nat.lt_of_mul_lt_mul_left (a := c) (by rw [Nat.mul_add]; omega)
  have a2 : b < a + 1 := Nat.lt_of_mul_lt_mul_left (a := c) (by rw [Nat.mul_add]; omega)
  have : a = b := by omega
  rw [hx, hy, this]
/-- y * row is near a multiple of 2^126 only if y * ten's power is one -/
theorem near (i : Nat) (hi : i < 696) (y n : Nat) (hy0 : 1 ≤ y) (hy : y < 144115188075855872)
    (ha : n * 85070591730234615865843651857942052864 < y * pm i + 144115188075855872) (hb : y * pm i ≤ n * 85070591730234615865843651857942052864 + 144115188075855872) :
    y * gT i = n * 85070591730234615865843651857942052864 * kT i := by
  have hc := chk_all i hi
  obtain ⟨p1, p2⟩ := pm_near i hi
  unfold chk at hc
  split at hc
  · have hg := of_decide_eq_true hc
    have hk : 0 < kT i := by omega
    obtain ⟨a0, ea⟩ := Nat.gcd_dvd_left (gT i) (85070591730234615865843651857942052864 * kT i)
    obtain ⟨b0, eb⟩ := Nat.gcd_dvd_right (gT i) (85070591730234615865843651857942052864 * kT i)
    generalize Nat.gcd (gT i) (85070591730234615865843651857942052864 * kT i) = c at *
    generalize pm i = P at *
    generalize gT i = G at *
    generalize kT i = K at *
    have ha' := Nat.mul_lt_mul_of_pos_right ha hk
    have hb' := Nat.mul_le_mul_right K hb
    have e3 := Nat.mul_le_mul_left y (Nat.le_of_lt p2)
    have e4 := Nat.mul_le_mul_left y p1
    have e5 : y * K ≤ 144115188075855872 * K := Nat.mul_le_mul_right K (Nat.le_of_lt hy)
    have e6 : y * K < 144115188075855872 * K := Nat.mul_lt_mul_of_pos_right hy hk
    refine mult_eq c (y * a0) (n * b0) _ _ ?_ ?_ ?_ ?_
    · rw [ea]; grind
    · rw [Nat.mul_assoc, eb]; grind
    · grind
    · grind
  · exfalso
    simp only [Bool.and_eq_true, decide_eq_true_eq] at hc
    obtain ⟨c1, c2, c3, c4⟩ := hc
    exact apart _ _ _ _ _ _ _ _ y n c1 c2 c3 c4 hy0 hy ha hb
end Go.Proofs.YtnccpddjdgndcaaGreatDoor.Nt
end

section
/- usc GIVES THE EXACT NUMBER, UNROUNDED. No walk. -/
namespace Go.Proofs.YtnccpddjdgndcaaGreatDoor.Nt
open Go.Proofs.YtnccpddjdgndcaaGreatDoor.Fmt
/-- U stands for N / D: itself where it is even, between its neighbours where it is odd -/
def Unr (U N D : Nat) : Prop := (U % 2 = 0 → N = U * D) ∧ (U % 2 = 1 → (U - 1) * D < N ∧ N < (U + 1) * D)
theorem or1 (a : Nat) : a ||| 1 = 2 * (a / 2) + 1 := by
  have h1 : (a ||| 1) / 2 = a / 2 := by rw [Nat.or_div_two]; exact Nat.or_zero _
  have h2 : (a ||| 1) % 2 = 1 := Nat.or_mod_two_eq_one.2 (Or.inr rfl)
  omega
theorem lower (L A x G K : Nat) (h1 : L + 18446744073709551616 ≤ A) (h2 : A * K < x * G + x * K) (hx : x < 18446744073709551616) : L * K < x * G := by
  have a := Nat.mul_le_mul_right K h1
  have b := Nat.mul_le_mul_right K (Nat.le_of_lt hx)
  rw [Nat.add_mul] at a
  omega
end Go.Proofs.YtnccpddjdgndcaaGreatDoor.Nt
end

section
/- THE SHORTEST DECIMAL LIES WHERE THE NUMBER IS THE NEAREST ONE. No walk. -/
namespace Go.Proofs.YtnccpddjdgndcaaGreatDoor.Nt
open Go.Proofs.YtnccpddjdgndcaaGreatDoor.Fmt
theorem pw2_pos (e : Int) : 0 < pw2 e := Nat.two_pow_pos _
theorem pw10_pos (e : Int) : 0 < pw10 e := Nat.pow_pos (by decide)
theorem pw2_add (a b c d : Int) (h : a + b = c + d) (ha : -2000 ≤ a) (hb : -2000 ≤ b) (hc : -2000 ≤ c) (hd : -2000 ≤ d) : pw2 a * pw2 b = pw2 c * pw2 d := by
  unfold pw2
  rw [← Nat.pow_add, ← Nat.pow_add]
  congr 1
  omega
theorem pw10_add (a b c d : Int) (h : a + b = c + d) (ha : -400 ≤ a) (hb : -400 ≤ b) (hc : -400 ≤ c) (hd : -400 ≤ d) : pw10 a * pw10 b = pw10 c * pw10 d := by
  unfold pw10
  rw [← Nat.pow_add, ← Nat.pow_add]
  congr 1
  omega
theorem pw2_step (e f : Int) (k : Nat) (h : f = e + k) (he : -2000 ≤ e) : pw2 f = pw2 e * 2 ^ k := by
  unfold pw2
  rw [← Nat.pow_add]
  congr 1
  omega
theorem pw10_step (e f : Int) (k : Nat) (h : f = e + k) (he : -400 ≤ e) : pw10 f = pw10 e * 10 ^ k := by
  unfold pw10
  rw [← Nat.pow_add]
  congr 1
  omega
theorem gT_eq (i : Nat) (p : Int) (h : p = (i : Int) - 348) : gT i = pw2 0 * pw10 p := by unfold gT; rw [h]
theorem kT_eq (i : Nat) (p : Int) (h : p = (i : Int) - 348) : kT i = pw2 (lg2 p - 127) * pw10 0 := by unfold kT; rw [h]
/-- where N stands among the even multiples of D -/
theorem Unr.le {U N D k : Nat} (h : Unr U N D) (h0 : 0 < D) (hk : k % 2 = 0) : k * D ≤ N ↔ k ≤ U := by
  obtain ⟨a, b⟩ := h
  rcases Nat.mod_two_eq_zero_or_one U with e | e
  · rw [a e]; exact Nat.mul_le_mul_right_iff h0
  · obtain ⟨b1, b2⟩ := b e
    constructor
    · intro h
      have := Nat.lt_of_mul_lt_mul_right (Nat.lt_of_le_of_lt h b2)
      omega
    · intro h
      have := Nat.mul_le_mul_right D (show k ≤ U - 1 by omega)
      omega
theorem Unr.ge {U N D k : Nat} (h : Unr U N D) (h0 : 0 < D) (hk : k % 2 = 0) : N ≤ k * D ↔ U ≤ k := by
  obtain ⟨a, b⟩ := h
  rcases Nat.mod_two_eq_zero_or_one U with e | e
  · rw [a e]; exact Nat.mul_le_mul_right_iff h0
  · obtain ⟨b1, b2⟩ := b e
    constructor
    · intro h
      have := Nat.lt_of_mul_lt_mul_right (Nat.lt_of_lt_of_le b1 h)
      omega
    · intro h
      have := Nat.mul_le_mul_right D (show U + 1 ≤ k by omega)
      omega
theorem Unr.lt {U N D k : Nat} (h : Unr U N D) (h0 : 0 < D) (hk : k % 2 = 0) : k * D < N ↔ k < U := by
  have := h.ge h0 hk
  omega
theorem Unr.gt {U N D k : Nat} (h : Unr U N D) (h0 : 0 < D) (hk : k % 2 = 0) : N < k * D ↔ U < k := by
  have := h.le h0 hk
  omega
/-- two sides times one thing each -/
theorem le_turn {L R L' R' X Z : Nat} (hX : 0 < X) (hZ : 0 < Z) (h1 : L * X = L' * Z) (h2 : R * X = R' * Z) : (L ≤ R ↔ L' ≤ R') ∧ (L < R ↔ L' < R') := by
  have a1 : L * X ≤ R * X ↔ L ≤ R := Nat.mul_le_mul_right_iff hX
  have a2 : L' * Z ≤ R' * Z ↔ L' ≤ R' := Nat.mul_le_mul_right_iff hZ
  have a3 : L * X < R * X ↔ L < R := Nat.mul_lt_mul_right hX
  have a4 : L' * Z < R' * Z ↔ L' < R' := Nat.mul_lt_mul_right hZ
  rw [h1, h2] at a1 a3
  exact ⟨a1.symm.trans a2, a3.symm.trans a4⟩
/-- the scale's unit, at a row and a shift -/
def dT (i S : Nat) : Nat := 2 ^ S * 340282366920938463463374607431768211456 * kT i
theorem dT_eq (i S : Nat) (p E : Int) (hp : p = (i : Int) - 348) (hS : (S : Int) = -(E + lg2 p + 3)) (hl : -1800 ≤ lg2 p) : dT i S * 4 = pw2 (-E) * pw10 0 := by
  unfold dT
  rw [kT_eq i p hp, show (340282366920938463463374607431768211456 : Nat) = 2 ^ 128 by decide]
  rw [show 2 ^ S * 2 ^ 128 * (pw2 (lg2 p - 127) * pw10 0) * 4 = (pw2 (lg2 p - 127) * (2 ^ S * 2 ^ 128 * 2 ^ 2)) * pw10 0 by grind]
  rw [← Nat.pow_add, ← Nat.pow_add, ← pw2_step (lg2 p - 127) (-E) (S + 128 + 2) (by omega) (by omega)]
/-- a scaled number against c, and the number against c over ten's power -/
theorem turn (i S : Nat) (x c : Nat) (p E : Int) (hp : p = (i : Int) - 348) (hi : i < 696) (hS : (S : Int) = -(E + lg2 p + 3)) (hE : E ≤ 1500) (hE2 : -1500 ≤ E) (hl : -1800 ≤ lg2 p) :
    (x * gT i ≤ 4 * c * dT i S ↔ x * pw2 E * pw10 0 ≤ c * pw2 0 * pw10 (-p)) ∧ (x * gT i < 4 * c * dT i S ↔ x * pw2 E * pw10 0 < c * pw2 0 * pw10 (-p)) ∧
    (4 * c * dT i S ≤ x * gT i ↔ c * pw2 0 * pw10 (-p) ≤ x * pw2 E * pw10 0) ∧ (4 * c * dT i S < x * gT i ↔ c * pw2 0 * pw10 (-p) < x * pw2 E * pw10 0) := by
  have e1 : 4 * c * dT i S = c * (dT i S * 4) := by grind
  rw [e1, dT_eq i S p E hp hS hl, gT_eq i p hp]
  have q1 := pw2_add (-E) E 0 0 (by omega) (by omega) (by omega) (by omega) (by omega)
  have q2 := pw10_add (-p) p 0 0 (by omega) (by omega) (by omega) (by omega) (by omega)
  have X := Nat.mul_pos (pw2_pos E) (pw10_pos (-p))
  have Z := Nat.mul_pos (pw2_pos 0) (pw10_pos 0)
  have h1 : x * (pw2 0 * pw10 p) * (pw2 E * pw10 (-p)) = x * pw2 E * pw10 0 * (pw2 0 * pw10 0) := by
    rw [show x * (pw2 0 * pw10 p) * (pw2 E * pw10 (-p)) = x * pw2 0 * pw2 E * (pw10 (-p) * pw10 p) by grind, q2]; grind
  have h2 : c * (pw2 (-E) * pw10 0) * (pw2 E * pw10 (-p)) = c * pw2 0 * pw10 (-p) * (pw2 0 * pw10 0) := by
    rw [show c * (pw2 (-E) * pw10 0) * (pw2 E * pw10 (-p)) = c * pw10 0 * pw10 (-p) * (pw2 (-E) * pw2 E) by grind, q1]; grind
  have t1 := le_turn X Z h1 h2
  have t2 := le_turn X Z h2 h1
  exact ⟨t1.1, t1.2, t2.1, t2.2⟩
end Go.Proofs.YtnccpddjdgndcaaGreatDoor.Nt
end

section
/- THE SHORTEST DECIMAL LIES WHERE THE NUMBER IS THE NEAREST ONE (second part). No walk. -/
namespace Go.Proofs.YtnccpddjdgndcaaGreatDoor.Nt
open Go.Proofs.YtnccpddjdgndcaaGreatDoor.Fmt
/-- a number's digits in twos; the place of the last one; four times its lower bound -/
def bM (b : Nat) : Nat := if bexp b = 0 then bman b else 4503599627370496 + bman b
def bE (b : Nat) : Int := if bexp b = 0 then -1074 else (bexp b : Int) - 1075
def lowQ (b : Nat) : Nat := if bman b = 0 ∧ 2 ≤ bexp b then 4 * bM b - 1 else 4 * bM b - 2
/-- the number that is nearest to T (scaled) is b -/
def InR (b T : Nat) : Prop := lowQ b * pw2 (bE b - 2) * pw10 0 ≤ T ∧ T ≤ (4 * bM b + 2) * pw2 (bE b - 2) * pw10 0 ∧
  (bM b % 2 = 1 → lowQ b * pw2 (bE b - 2) * pw10 0 < T ∧ T < (4 * bM b + 2) * pw2 (bE b - 2) * pw10 0)
end Go.Proofs.YtnccpddjdgndcaaGreatDoor.Nt
end

section
/- DIGITS AND A POWER OF TEN ARE ROUNDED TO THE NEAREST NUMBER. No walk. -/
namespace Go.Proofs.YtnccpddjdgndcaaGreatDoor.Nt
open Go.Proofs.YtnccpddjdgndcaaGreatDoor.Fmt
/-- what parseFloat64 reckons -/
def pfE (d : Nat) (p : Int) : Int := min 1074 (53 - (Lib.bitLen d : Int) - lg2 p)
def pfS (d : Nat) (p : Int) : Int := -(pfE d p - (64 - (Lib.bitLen d : Int)) + lg2 p + 3)
def pfI (p : Int) : Nat := (p + 348).toNat
def pfU (d : Nat) (p : Int) : Nat := usc (d * 2 ^ (64 - Lib.bitLen d)) (hiT (pfI p)) (loT (pfI p)) (pfS d p).toNat
theorem pw2_mono {a b : Int} (h : a ≤ b) : pw2 a ≤ pw2 b := Nat.pow_le_pow_right (by decide) (by omega)
theorem pw2_lt {a b : Int} (_hb : -2000 ≤ a) (h : pw2 a < pw2 b) : a < b := by
  rcases Int.lt_or_le a b with g | g
  · exact g
  · have := pw2_mono g; omega
theorem len_bounds (d : Nat) (h : d < 18446744073709551616) (h0 : 1 ≤ d) : 1 ≤ Lib.bitLen d ∧ 2 ^ (Lib.bitLen d - 1) ≤ d ∧ d < 2 ^ Lib.bitLen d := bitLenAux_bounds 64 d (by omega) (by omega)
theorem bM_facts (b : Nat) (h1 : 1 ≤ b) (h2 : b < 9218868437227405312) : 1 ≤ bM b ∧ bM b ≤ 9007199254740991 ∧ -1074 ≤ bE b ∧ bE b ≤ 971 ∧ 4 * bM b - 2 ≤ lowQ b ∧
    (-1074 < bE b → 4503599627370496 ≤ bM b) ∧ (-1074 < bE b → bM b = 4503599627370496 → lowQ b = 18014398509481983) := by
  have e0 : bexp b = b / 4503599627370496 := by unfold bexp; omega
  have f0 : bman b = b % 4503599627370496 := rfl
  unfold lowQ bM bE
  by_cases hx : bexp b = 0
  · simp only [if_pos hx]
    rw [if_neg (by omega)]
    omega
  · simp only [if_neg hx]
    split <;> omega
end Go.Proofs.YtnccpddjdgndcaaGreatDoor.Nt
end

section
/- THE WALK OF strconv.parseFloat64 (second part). -/
namespace Go.Proofs.YtnccpddjdgndcaaGreatDoor.Pf
open Go.RowKit Go.Proofs.YtnccpddjdgndcaaGreatDoor.Fmt Go.Proofs.YtnccpddjdgndcaaGreatDoor.Val Go.Proofs.YtnccpddjdgndcaaGreatDoor.Nt
/-- what parseFloat64 answers -/
def pfV (d : Nat) (p sg : Int) : Int × Bool :=
  if 64 ≤ pfS d p then (sg, false)
  else if 36028797018963966 ≤ pfU d p then packB (bits .or .u64 sg ((rnd (pfU d p / 2 ||| pfU d p % 2) : Nat) : Int)) (-(pfE d p - 1))
  else packB (bits .or .u64 sg ((rnd (pfU d p) : Nat) : Int)) (-pfE d p)
theorem and1u (n : Nat) (h : n < 18446744073709551616) : bits .and .u64 (n : Int) 1 = ((n % 2 : Nat) : Int) := by
  have := and_u n 1 h (by decide)
  rw [show ((1 : Int)) = ((1 : Nat) : Int) from rfl, this, Nat.and_one_is_mod]
set_option maxRecDepth 20000 in
set_option maxHeartbeats 2000000 in
theorem pf64_any (d : Nat) (p sg : Int) (hd0 : 1 ≤ d) (hd : d < 18446744073709551616) (hp0 : -348 ≤ p) (hp1 : p ≤ 347) (hsg : bits .or .u64 sg 0 = sg) (w : World) (hpw : Pow w) :
    Calls Tryz.prog 159 #[.int .u64 d, .int .i64 p, .int .u64 sg] w fun e' w' => e' = .returned (.tuple #[.float .f64 (pfV d p sg).1.toNat, errV (pfV d p sg).2]) ∧ Below w.heap.size w w' := by
  have hv : pfV d p sg = pfV d p sg := rfl
  conv at hv => rhs; unfold pfV
  generalize pfV d p sg = V at *
  obtain ⟨l1, l2, l3⟩ := len_bounds d hd hd0
  have hS' : pfS d p = -(pfE d p - (64 - (Lib.bitLen d : Int)) + lg2 p + 3) := rfl
  have hE' : pfE d p = min 1074 (53 - (Lib.bitLen d : Int) - lg2 p) := rfl
  have hU' : pfU d p = usc (d * 2 ^ (64 - Lib.bitLen d)) (hiT (pfI p)) (loT (pfI p)) (pfS d p).toNat := rfl
  have l4 : Lib.bitLen d ≤ 64 := Lib.bitLen_le d 64 (by decide) hd
  obtain ⟨b, hb⟩ : ∃ b : Nat, Lib.bitLen d = b := ⟨_, rfl⟩
  rw [hb] at l1 l2 l3 l4 hS' hE' hU'
  have hle : (Lib.bitLen ((d : Int)).toNat : Int) = (b : Int) := by rw [Int.toNat_natCast, hb]
  have hlen := fun W => Tryz.bits_Len64 (d : Int) W (by omega) (by omega)
  rw [hle] at hlen
  have hi : p + 348 = pfI p := by unfold pfI; omega
  generalize pfI p = i at *
  have hi2 : i < 696 := by omega
  have hlp : -2000 ≤ lg2 p ∧ lg2 p ≤ 2000 := by unfold lg2; omega
  have hlg := fun W => lg2_any p (by omega) (by omega) W
  have hpre := fun (E : Int) (h0 : -100000 ≤ E) (h1 : E ≤ 100000) => prescale_any E p (lg2 p) i hi hi2 h0 h1 (by omega) (by omega) w hpw
  generalize lg2 p = lp at *
  have j1 : (0 : Int) ≤ 64 - (b : Int) := by omega
  obtain ⟨X, hX⟩ : ∃ X : Nat, d * 2 ^ (64 - b) = X := ⟨_, rfl⟩
  have hXl : X < 18446744073709551616 := by
    have := Nat.mul_lt_mul_of_pos_right l3 (Nat.two_pow_pos (64 - b))
    rw [pow_join _ _ 64 (by omega)] at this
    omega
  have hXw : IntKind.u64.wrap ((d : Int) * 2 ^ (64 - b)) = (X : Int) := by
    rw [IntKind.wrap_u64, ← hX]
    have e : ((d * 2 ^ (64 - b) : Nat) : Int) = (d : Int) * 2 ^ (64 - b) := by push_cast; rfl
    rw [← e, hX]
    omega
  rw [hX] at hU'
  generalize pfE d p = E at *
  generalize pfS d p = S at *
  generalize pfU d p = U at *
  have HLEN := Lib.hid hlen; have HLG := Lib.hid hlg; have HPRE := Lib.hid hpre; have HV := Lib.hid hv; have HU' := Lib.hid hU'; have HE' := Lib.hid hE'
  have hE0 : -3000 ≤ E := by omega
  have hE1 : E ≤ 1074 := by omega
  have hS0 : 8 ≤ S := by omega
  have HS' := Lib.hid hS'
  clear hlen hlg hpre hpw hv hU' hX l1 l2 l3 hb hi hle hE' hS'
  go_enter Tryz.func159, Tryz.ntmps159
  go_upto_region 5 with (first | (go_at_call 118; (refine (HLEN.out _).mono ?_); rintro e w1 ⟨rfl, rfl⟩) | (go_at_call 167; (refine (HLG.out _).mono ?_); rintro e w1 ⟨rfl, rfl⟩) | fail)
  rw [← HE'.out]
  go_upto_region 6 with (first | (go_at_call 166; (refine (HPRE.out (E - (64 - (b : Int))) (by omega) (by omega)).mono ?_); rintro e w2 ⟨rfl, rfl⟩) | fail)
  rw [← HS'.out]
  have hc : ∀ o n, ((w1.alloc (.cells #[.int .u64 (hiT i : Nat), .int .u64 (loT i : Nat), .int .i64 S] 199)).drewN n).cell? ⟨w1.heap.size, o, none⟩ = #[.int .u64 (hiT i : Nat), .int .u64 (loT i : Nat), .int .i64 S][o]? := fun o n => World.cell?_alloc_at (w := w1) _ _ _ _ rfl
  have hbl : ∀ n, Below w1.heap.size w1 ((w1.alloc (.cells #[.int .u64 (hiT i : Nat), .int .u64 (loT i : Nat), .int .i64 S] 199)).drewN n) := fun n => Val.bdrewN (Val.balloc w1 (.cells #[.int .u64 (hiT i : Nat), .int .u64 (loT i : Nat), .int .i64 S] 199)) n
  have HBL := Lib.hid hbl
  have c2 := hc 2 0
  clear hbl HPRE HLEN HLG
  have HSG := Lib.hid hsg
  clear hsg
  by_cases hs : 64 ≤ S
  · have hv := HV.out
    rw [if_pos hs] at hv
    subst hv
    go_wp2_with (first | (simp only [sfrom_call, HSG.out]) | fail)
    try rw [HSG.out]
    go_returns
    exact ⟨rfl, HBL.out 0⟩
  · obtain ⟨S, rfl⟩ : ∃ q : Nat, S = q := ⟨S.toNat, by omega⟩
    have hS63 : S ≤ 63 := by omega
    have hv := HV.out
    rw [if_neg hs] at hv
    have HV2 := Lib.hid hv
    have hu2 := HU'.out
    rw [Int.toNat_natCast] at hu2
    have HU2 := Lib.hid hu2
    clear hv hu2 hs HV HU'
    have hUl : U < 18446744073709551616 := by rw [HU2.out]; exact usc_lt _ _ _ _ hXl (hiT_big _ hi2).2
    obtain ⟨hh, hhb⟩ := hiT_big _ hi2
    have hlo := lo_lt i hi2
    have c0 : ((w1.alloc (.cells #[.int .u64 (hiT i : Nat), .int .u64 (loT i : Nat), .int .i64 (S : Int)] 199))).cell? ⟨w1.heap.size, 0, none⟩ = some (.int .u64 (hiT i : Nat)) := hc 0 0
    have c1 : ((w1.alloc (.cells #[.int .u64 (hiT i : Nat), .int .u64 (loT i : Nat), .int .i64 (S : Int)] 199))).cell? ⟨w1.heap.size, 1, none⟩ = some (.int .u64 (loT i : Nat)) := hc 1 0
    have c2' : ((w1.alloc (.cells #[.int .u64 (hiT i : Nat), .int .u64 (loT i : Nat), .int .i64 (S : Int)] 199))).cell? ⟨w1.heap.size, 2, none⟩ = some (.int .i64 (S : Int)) := hc 2 0
    have hus := uscale_any X (hiT i) (loT i) S w1.heap.size hXl hhb hlo hS63 _ c0 c1 c2'
    rw [← HU2.out] at hus
    have HUS := Lib.hid hus
    have hs64 : ¬ (64 : Int) ≤ (S : Int) := by omega
    clear hus c0 c1 c2 hc HU2
    generalize w1.alloc (.cells #[.int .u64 (hiT i : Nat), .int .u64 (loT i : Nat), .int .i64 (S : Int)] 199) = W at *
    have hand := and1u U hUl
    have HAND := Lib.hid hand
    clear hand
    by_cases hU : 36028797018963966 ≤ U
    · have hv := HV2.out
      rw [if_pos hU] at hv
      have HV3 := Lib.hid hv; clear hv HV2
      have hUi : (36028797018963966 : Int) ≤ (U : Int) := by omega
      have hor := or_u (U / 2) (U % 2) (by omega) (by omega)
      rw [show ((U / 2 : Nat) : Int) = (U : Int) / 2 by omega, show ((U % 2 : Nat) : Int) = (U : Int) % 2 by omega] at hor
      have hQ : (U / 2 ||| U % 2) < 18446744073709551616 := Nat.or_lt_two_pow (n := 64) (by omega) (by omega)
      generalize (U / 2 ||| U % 2) = Q at *
      have HOR := Lib.hid hor
      clear hor
      go_upto_region 12 with (first | (go_at_call 168; refine HUS.out.mono ?_; rintro e w3 ⟨rfl, n, rfl⟩) | (go_at_call 173; refine (unmin_53 _).mono ?_; rintro e w4 ⟨rfl, rfl⟩) | (go_at_call 119; refine (bool2i_any _ _).mono ?_; rintro e w4 ⟨rfl, rfl⟩) | (simp only [HAND.out]) | fail)
      rw [HOR.out]
      have hrn := fun W => rnd_any Q hQ W
      have hpk := fun W => pack_any (bits .or .u64 sg (rnd Q : Nat)) (-(E - 1)) (by omega) (by omega) W
      rw [← HV3.out] at hpk
      have HRN := Lib.hid hrn; have HPK := Lib.hid hpk
      clear hrn hpk
      go_wp2_with (first | (go_at_call 172; refine (HRN.out _).mono ?_; rintro e w4 ⟨rfl, rfl⟩) | (go_at_call 192; refine (HPK.out _).mono ?_; rintro e w4 ⟨rfl, rfl⟩) | fail)
      go_returns
      exact ⟨rfl, HBL.out _⟩
    · have hv := HV2.out
      rw [if_neg hU] at hv
      have HV3 := Lib.hid hv; clear hv HV2
      have hUi : ¬ (36028797018963966 : Int) ≤ (U : Int) := by omega
      have hor := or_u U (U % 2) (by omega) (by omega)
      rw [show ((U % 2 : Nat) : Int) = (U : Int) % 2 by omega] at hor
      have hUU : U ||| U % 2 = U := by
        rcases Nat.mod_two_eq_zero_or_one U with o | o
        · rw [o, Nat.or_zero]
        · rw [o, Nt.or1]; omega
      rw [hUU] at hor
      have HOR := Lib.hid hor
      clear hor hUU
      go_upto_region 12 with (first | (go_at_call 168; refine HUS.out.mono ?_; rintro e w3 ⟨rfl, n, rfl⟩) | (go_at_call 173; refine (unmin_53 _).mono ?_; rintro e w4 ⟨rfl, rfl⟩) | (go_at_call 119; refine (bool2i_any _ _).mono ?_; rintro e w4 ⟨rfl, rfl⟩) | (simp only [HAND.out]) | fail)
      rw [HOR.out]
      have hrn := fun W => rnd_any U hUl W
      have hpk := fun W => pack_any (bits .or .u64 sg (rnd U : Nat)) (-E) (by omega) (by omega) W
      rw [← HV3.out] at hpk
      have HRN := Lib.hid hrn; have HPK := Lib.hid hpk
      clear hrn hpk
      go_wp2_with (first | (go_at_call 172; refine (HRN.out _).mono ?_; rintro e w4 ⟨rfl, rfl⟩) | (go_at_call 192; refine (HPK.out _).mono ?_; rintro e w4 ⟨rfl, rfl⟩) | fail)
      go_returns
      exact ⟨rfl, HBL.out _⟩
end Go.Proofs.YtnccpddjdgndcaaGreatDoor.Pf
end

section
/- A NUMBER THAT LIES WHERE b IS THE NEAREST ONE IS ROUNDED TO b by a float's own operations. No walk. -/
namespace Go.Proofs.YtnccpddjdgndcaaGreatDoor.Nt
open Go.Proofs.YtnccpddjdgndcaaGreatDoor.Fmt Ieee
theorem cut_even (neg : Bool) (n drop K : Nat) (hK : 1 ≤ K) (h1 : (2 * K) * 2 ^ drop ≤ 2 * n + 2 ^ drop) (h2 : 2 * n ≤ (2 * K + 1) * 2 ^ drop)
    (h3 : K % 2 = 1 → (2 * K) * 2 ^ drop < 2 * n + 2 ^ drop ∧ 2 * n < (2 * K + 1) * 2 ^ drop) : Toward.even.cut neg n drop = K := by
  have hG : 0 < 2 ^ drop := Nat.two_pow_pos _
  have hn : n ≠ 0 := by
    intro h0
    subst h0
    have := Nat.mul_le_mul_right (2 ^ drop) (show 2 ≤ 2 * K by omega)
    omega
  have hd : drop ≤ n.log2 + 2 := by
    have q := Nat.lt_log2_self (n := n)
    have c := Nat.mul_le_mul_right (2 ^ drop) (show 2 ≤ 2 * K by omega)
    have p : 2 ^ drop < 2 ^ (n.log2 + 2) := by
      have : 2 ^ (n.log2 + 2) = 2 ^ (n.log2 + 1) * 2 := by rw [← Nat.pow_succ]
      omega
    exact Nat.le_of_lt ((Nat.pow_lt_pow_iff_right (by decide)).1 p)
  unfold Toward.cut
  simp only [Nat.min_eq_left hd, Nat.one_shiftLeft]
  have hdm := Nat.div_add_mod n (2 ^ drop)
  have hr := Nat.mod_lt n hG
  generalize n / 2 ^ drop = low at *
  generalize n % 2 ^ drop = r at *
  generalize 2 ^ drop = G at *
  have e1 : (2 * K) * G = 2 * (G * K) := by grind
  have e2 : (2 * K + 1) * G = 2 * (G * K) + G := by grind
  rw [e1] at h1
  rw [e2] at h2
  rw [e1, e2] at h3
  have k1 : low ≤ K := by
    rcases Nat.lt_or_ge K low with g | g
    · have := Nat.mul_le_mul_left G (show K + 1 ≤ low by omega)
      have e3 : G * (K + 1) = G * K + G := by grind
      omega
    · exact g
  have k2 : K ≤ low + 1 := by
    rcases Nat.lt_or_ge (low + 1) K with g | g
    · have := Nat.mul_le_mul_left G (show low + 2 ≤ K by omega)
      have e3 : G * (low + 2) = G * low + 2 * G := by grind
      omega
    · exact g
  rcases Nat.lt_or_ge low K with g | g
  · obtain rfl : K = low + 1 := by omega
    have e3 : G * (low + 1) = G * low + G := by grind
    rw [e3] at h1 h2 h3
    have m : (decide (G < 2 * r) || (G == 2 * r && low % 2 == 1)) = true := by
      rcases Nat.lt_or_ge G (2 * r) with q | q
      · simp [q]
      · have q2 : G = 2 * r := by omega
        have : ¬ (low + 1) % 2 = 1 := fun h => by have := h3 h; omega
        have o : low % 2 = 1 := by omega
        simp [q2, o]
    simp only [m]
    rfl
  · obtain rfl : K = low := by omega
    have m : (decide (G < 2 * r) || (G == 2 * r && K % 2 == 1)) = false := by
      have q1 : ¬ G < 2 * r := by omega
      rcases Nat.lt_or_ge (2 * r) G with q | q
      · have q2 : (G == 2 * r) = false := by rw [beq_eq_false_iff_ne]; omega
        simp [q1, q2]
      · have : ¬ K % 2 = 1 := fun h => by have := h3 h; omega
        have o : (K % 2 == 1) = false := by rw [beq_eq_false_iff_ne]; omega
        simp [q1, o]
    simp only [m]
    rfl
theorem cut_at (neg : Bool) (mag K : Nat) (place last : Int) (hp0 : -1900 ≤ place) (hl0 : -1900 ≤ last) (hK : 1 ≤ K)
    (h1 : (2 * K) * pw2 last ≤ 2 * (mag * pw2 place) + pw2 last) (h2 : 2 * (mag * pw2 place) ≤ (2 * K + 1) * pw2 last)
    (h3 : K % 2 = 1 → (2 * K) * pw2 last < 2 * (mag * pw2 place) + pw2 last ∧ 2 * (mag * pw2 place) < (2 * K + 1) * pw2 last) :
    Toward.even.cut neg (mag <<< (place - last).toNat) (last - place).toNat = K := by
  rw [Nat.shiftLeft_eq]
  rcases Int.lt_or_le place last with g | g
  · have z : (place - last).toNat = 0 := by omega
    rw [z, Nat.pow_zero, Nat.mul_one]
    have e := pw2_step place last (last - place).toNat (by omega) (by omega)
    have P := pw2_pos place
    rw [e] at h1 h2 h3
    generalize pw2 place = u at *
    generalize (last - place).toNat = dr at *
    have a1 : (2 * K) * (u * 2 ^ dr) = ((2 * K) * 2 ^ dr) * u := by grind
    have a2 : 2 * (mag * u) + u * 2 ^ dr = (2 * mag + 2 ^ dr) * u := by grind
    have a3 : 2 * (mag * u) = (2 * mag) * u := by grind
    have a4 : (2 * K + 1) * (u * 2 ^ dr) = ((2 * K + 1) * 2 ^ dr) * u := by grind
    rw [a1, a2] at h1
    rw [a3, a4] at h2
    rw [a1, a2, a3, a4] at h3
    exact cut_even neg mag dr K hK (Nat.le_of_mul_le_mul_right h1 P) (Nat.le_of_mul_le_mul_right h2 P) (fun h => ⟨Nat.lt_of_mul_lt_mul_right (h3 h).1, Nat.lt_of_mul_lt_mul_right (h3 h).2⟩)
  · have z : (last - place).toNat = 0 := by omega
    have e := pw2_step last place (place - last).toNat (by omega) (by omega)
    have P := pw2_pos last
    rw [e] at h1 h2 h3
    rw [z]
    generalize pw2 last = u at *
    generalize (place - last).toNat = dr at *
    have a2 : 2 * (mag * (u * 2 ^ dr)) + u = (2 * (mag * 2 ^ dr) + 1) * u := by grind
    have a3 : 2 * (mag * (u * 2 ^ dr)) = (2 * (mag * 2 ^ dr)) * u := by grind
    rw [a2] at h1
    rw [a3] at h2
    rw [a2, a3] at h3
    have b1 := Nat.le_of_mul_le_mul_right h1 P
    have b2 := Nat.le_of_mul_le_mul_right h2 P
    refine cut_even neg _ 0 K hK ?_ ?_ (fun h => ⟨?_, ?_⟩)
    · rw [Nat.pow_zero, Nat.mul_one]; exact b1
    · rw [Nat.pow_zero, Nat.mul_one]; exact b2
    · rw [Nat.pow_zero, Nat.mul_one]; exact Nat.lt_of_mul_lt_mul_right (h3 h).1
    · rw [Nat.pow_zero, Nat.mul_one]; exact Nat.lt_of_mul_lt_mul_right (h3 h).2
theorem least_eq : double.leastPlace = -1074 := by decide
theorem binade_eq : double.binade = 4503599627370496 := by decide
theorem inf_eq : double.infRung = 9218868437227405312 := by decide
theorem frac_eq : double.fractionBits = 52 := rfl
theorem rung_eq (b : Nat) (h : b < 9223372036854775808) : (bE b - -1074).toNat * 4503599627370496 + bM b = b := by
  have e0 : bexp b = b / 4503599627370496 := by unfold bexp; omega
  have e1 : bman b = b % 4503599627370496 := rfl
  unfold bM bE
  split <;> omega
theorem rung_low (b : Nat) (h : b < 9223372036854775808) (h1 : -1074 < bE b) (h2 : bM b = 4503599627370496) : (bE b - 1 - -1074).toNat * 4503599627370496 + 9007199254740992 = b := by
  have q := rung_eq b h
  have e : (bE b - -1074).toNat = (bE b - 1 - -1074).toNat + 1 := by omega
  rw [e, h2] at q
  generalize (bE b - 1 - -1074).toNat = k at *
  rw [Nat.add_mul, Nat.add_assoc] at q
  exact q
theorem rung_j (j X : Nat) (h : j ≤ 52) (hX : X < 9007199254740992) : min ((-(j : Int) - -1074).toNat * 4503599627370496 + X) 9218868437227405312 = (1074 - j) * 4503599627370496 + X := by
  have : (-(j : Int) - -1074).toNat = 1074 - j := by omega
  rw [this]
  have h2 : (1074 - j) * 4503599627370496 + X ≤ 9218868437227405312 := by omega
  exact Nat.min_eq_left h2
theorem nearest_of (neg : Bool) (b mag : Nat) (place : Int) (h1 : 1 ≤ b) (h2 : b < 9218868437227405312) (hm : mag ≠ 0) (hp0 : -1900 ≤ place) (hp1 : place ≤ 1900)
    (r1 : lowQ b * pw2 (bE b - 2) ≤ mag * pw2 place) (r2 : mag * pw2 place ≤ (4 * bM b + 2) * pw2 (bE b - 2))
    (r3 : bM b % 2 = 1 → lowQ b * pw2 (bE b - 2) < mag * pw2 place ∧ mag * pw2 place < (4 * bM b + 2) * pw2 (bE b - 2)) : double.nearest neg mag place = double.word neg b := by
  obtain ⟨f1, f2, f3, f4, f5, f6, f7⟩ := bM_facts b h1 h2
  have hL1 := Nat.log2_self_le hm
  have hL2 := Nat.lt_log2_self (n := mag)
  have t0 := pw2_pos (bE b - 2)
  have k1 : place + (mag.log2 : Int) ≤ bE b + 52 := by
    have c1 : pw2 (place + mag.log2) = pw2 place * 2 ^ mag.log2 := pw2_step _ _ _ (by omega) (by omega)
    have c2 : pw2 (bE b + 53) = pw2 (bE b - 2) * 2 ^ 55 := pw2_step _ _ _ (by omega) (by omega)
    have c3 := Nat.mul_le_mul_right (pw2 place) hL1
    have c4 : (4 * bM b + 2) * pw2 (bE b - 2) < 36028797018963968 * pw2 (bE b - 2) := Nat.mul_lt_mul_of_pos_right (by omega) t0
    rw [show (2 : Nat) ^ 55 = 36028797018963968 by decide] at c2
    have := pw2_lt (a := place + (mag.log2 : Int)) (b := bE b + 53) (by omega) (by rw [c1, c2, Nat.mul_comm (pw2 place)]; omega)
    omega
  have k2 : -1074 < bE b → bE b + 51 ≤ place + (mag.log2 : Int) := by
    intro hb
    have := f6 hb
    have c1 : pw2 (place + mag.log2 + 1) = pw2 place * 2 ^ (mag.log2 + 1) := pw2_step _ _ _ (by omega) (by omega)
    have c2 : pw2 (bE b + 51) = pw2 (bE b - 2) * 2 ^ 53 := pw2_step _ _ _ (by omega) (by omega)
    have c3 : mag * pw2 place < 2 ^ (mag.log2 + 1) * pw2 place := Nat.mul_lt_mul_of_pos_right hL2 (pw2_pos _)
    have c4 := Nat.mul_le_mul_right (pw2 (bE b - 2)) (show 9007199254740992 ≤ lowQ b by omega)
    rw [show (2 : Nat) ^ 53 = 9007199254740992 by decide] at c2
    have := pw2_lt (a := bE b + 51) (b := place + (mag.log2 : Int) + 1) (by omega) (by rw [c1, c2, Nat.mul_comm (pw2 place)]; omega)
    omega
  have e0 : bexp b = b / 4503599627370496 := by unfold bexp; omega
  have e1 : bman b = b % 4503599627370496 := rfl
  unfold Format.nearest
  rw [if_neg hm]
  simp only [least_eq, binade_eq, inf_eq, frac_eq]
  obtain ⟨last, hlast⟩ : ∃ last : Int, max (place + (mag.log2 : Int) - (52 : Nat)) (-1074) = last := ⟨_, rfl⟩
  rw [hlast]
  have hcase : last = bE b ∨ (last = bE b - 1 ∧ -1074 < bE b ∧ place + (mag.log2 : Int) = bE b + 51) := by omega
  rcases hcase with g | ⟨g, g2, g3⟩
  · have q : pw2 last = pw2 (bE b - 2) * 2 ^ 2 := by rw [g]; exact pw2_step _ _ _ (by omega) (by omega)
    have hc := cut_at neg mag (bM b) place last hp0 (by omega) f1
    rw [q] at hc
    have low := Nat.mul_le_mul_right (pw2 (bE b - 2)) f5
    generalize pw2 (bE b - 2) = t at *
    generalize mag * pw2 place = V at *
    have d1 : (4 * bM b - 2) * t + 2 * t = 4 * (bM b * t) := by
      rw [← Nat.add_mul, show 4 * bM b - 2 + 2 = 4 * bM b by omega]; grind
    have d2 : (4 * bM b + 2) * t = 4 * (bM b * t) + 2 * t := by grind
    have d3 : 2 * bM b * (t * 2 ^ 2) = 8 * (bM b * t) := by grind
    have d4 : (2 * bM b + 1) * (t * 2 ^ 2) = 8 * (bM b * t) + 4 * t := by grind
    have d5 : t * 2 ^ 2 = 4 * t := by grind
    rw [d3, d4, d5] at hc
    have hc2 := hc (by omega) (by omega) (fun h => by have := r3 h; omega)
    clear hc
    rw [hc2, g, rung_eq b (Nat.lt_trans h2 (by decide)), Nat.min_eq_left (Nat.le_of_lt h2)]
  · have hM := f6 g2
    have v1 : mag * pw2 place < 18014398509481984 * pw2 (bE b - 2) := by
      have c1 : pw2 (bE b + 52) = pw2 place * 2 ^ (mag.log2 + 1) := by
        rw [show bE b + 52 = place + (mag.log2 : Int) + 1 by omega]
        exact pw2_step _ _ _ (by omega) (by omega)
      have c2 : pw2 (bE b + 52) = pw2 (bE b - 2) * 2 ^ 54 := pw2_step _ _ _ (by omega) (by omega)
      have c3 : mag * pw2 place < 2 ^ (mag.log2 + 1) * pw2 place := Nat.mul_lt_mul_of_pos_right hL2 (pw2_pos _)
      rw [show (2 : Nat) ^ 54 = 18014398509481984 by decide] at c2
      rw [Nat.mul_comm (2 ^ (mag.log2 + 1)), ← c1, c2] at c3
      omega
    have hM2 : bM b = 4503599627370496 := by
      have : lowQ b < 18014398509481984 := Nat.lt_of_mul_lt_mul_right (Nat.lt_of_le_of_lt r1 v1)
      omega
    have hq := f7 g2 hM2
    have q : pw2 last = pw2 (bE b - 2) * 2 ^ 1 := by rw [g]; exact pw2_step _ _ _ (by omega) (by omega)
    have hc := cut_at neg mag 9007199254740992 place last hp0 (by omega) (by decide)
    rw [q] at hc
    rw [hq] at r1
    generalize pw2 (bE b - 2) = t at *
    generalize mag * pw2 place = V at *
    have hc2 := hc (by omega) (by omega) (fun h => by omega)
    clear hc
    have re := rung_low b (Nat.lt_trans h2 (by decide)) g2 hM2
    rw [hc2, g, re, Nat.min_eq_left (Nat.le_of_lt h2)]
/-- what a number's word is read as -/
theorem read_word (neg : Bool) (b : Nat) (h : b < 9218868437227405312) : double.read (double.word neg b) = .number neg (bM b) (bE b) := by
  have hw : double.signWeight = 9223372036854775808 := by decide
  have e0 : bexp b = b / 4503599627370496 := by unfold bexp; omega
  have e1 : bman b = b % 4503599627370496 := rfl
  unfold Format.read Format.word
  simp only [hw, binade_eq, inf_eq, least_eq]
  have r1 : (if neg = true then 9223372036854775808 + b else b) % 9223372036854775808 = b := by split <;> omega
  have r2 : ((if neg = true then 9223372036854775808 + b else b) / 9223372036854775808 % 2 == 1) = neg := by
    cases neg
    · rw [if_neg (by decide), Nat.div_eq_of_lt (by omega)]; rfl
    · rw [if_pos rfl, show (9223372036854775808 + b) / 9223372036854775808 = 1 by omega]; rfl
  rw [r1, r2]
  unfold bM bE
  by_cases hx : bexp b = 0
  · rw [if_pos (by omega), if_pos hx, if_pos hx]
    congr 1
    omega
  · rw [if_neg (by omega), if_pos h, if_neg hx, if_neg hx, e0, e1]
    congr 1
    omega
/-- a whole number of at most 53 digits in twos has a word of its own -/
theorem exact_word (neg : Bool) (d : Nat) (h1 : 1 ≤ d) (h2 : d ≤ 9007199254740992) : ∃ b, 1 ≤ b ∧ b < 9218868437227405312 ∧ double.nearest neg d 0 = double.word neg b ∧ bM b * pw2 (bE b) = d * pw2 0 := by
  have hm : d ≠ 0 := by omega
  have hL1 := Nat.log2_self_le hm
  have hL2 := Nat.lt_log2_self (n := d)
  have hL : d.log2 ≤ 53 := by
    have : 2 ^ d.log2 < 2 ^ 54 := Nat.lt_of_le_of_lt hL1 (by omega)
    have := (Nat.pow_lt_pow_iff_right (by decide : 1 < 2)).1 this
    omega
  by_cases h53 : d = 9007199254740992
  · subst h53
    refine ⟨4845873199050653696, by decide, by decide, ?_, ?_⟩
    · cases neg <;> decide +kernel
    · have e : bM 4845873199050653696 = 4503599627370496 ∧ bE 4845873199050653696 = 1 := by decide +kernel
      rw [e.1, e.2]
      have q : pw2 1 = pw2 0 * 2 ^ 1 := pw2_step _ _ _ (by omega) (by omega)
      rw [q]
      generalize pw2 0 = t
      omega
  have hL3 : d.log2 ≤ 52 := by
    have : 2 ^ d.log2 < 2 ^ 53 := Nat.lt_of_le_of_lt hL1 (by omega)
    have := (Nat.pow_lt_pow_iff_right (by decide : 1 < 2)).1 this
    omega
  obtain ⟨j, hj⟩ : ∃ j, j + d.log2 = 52 := ⟨52 - d.log2, by omega⟩
  have n1 : 4503599627370496 ≤ d * 2 ^ j := by
    have := Nat.mul_le_mul_right (2 ^ j) hL1
    rw [← Nat.pow_add, show d.log2 + j = 52 by omega] at this
    omega
  have n2 : d * 2 ^ j < 9007199254740992 := by
    have := Nat.mul_lt_mul_of_pos_right hL2 (Nat.two_pow_pos j)
    rw [← Nat.pow_add, show d.log2 + 1 + j = 53 by omega] at this
    omega
  refine ⟨(1074 - j) * 4503599627370496 + d * 2 ^ j, by omega, by omega, ?_, ?_⟩
  · unfold Format.nearest
    rw [if_neg hm]
    simp only [least_eq, binade_eq, inf_eq, frac_eq]
    have hlast : max (0 + (d.log2 : Int) - (52 : Nat)) (-1074) = -(j : Int) := by omega
    rw [hlast]
    have hc := cut_at neg d (d * 2 ^ j) 0 (-(j : Int)) (by omega) (by omega) (by omega)
    have q : pw2 0 = pw2 (-(j : Int)) * 2 ^ j := pw2_step _ _ _ (by omega) (by omega)
    rw [q] at hc
    have t0 := pw2_pos (-(j : Int))
    generalize pw2 (-(j : Int)) = t at *
    generalize hX : d * 2 ^ j = X at *
    have d1 : 2 * (d * (t * 2 ^ j)) = 2 * (X * t) := by rw [← hX]; grind
    have d2 : 2 * X * t = 2 * (X * t) := by grind
    have d3 : (2 * X + 1) * t = 2 * (X * t) + t := by grind
    rw [d1, d2, d3] at hc
    have hc2 := hc (by omega) (by omega) (fun _ => by omega)
    clear hc
    rw [hc2, rung_j j X (by omega) n2]
  · have hx : bexp ((1074 - j) * 4503599627370496 + d * 2 ^ j) = 1075 - j := by unfold bexp; omega
    have hy : bman ((1074 - j) * 4503599627370496 + d * 2 ^ j) = d * 2 ^ j - 4503599627370496 := by unfold bman; omega
    unfold bM bE
    rw [hx, hy, if_neg (by omega), if_neg (by omega), show 4503599627370496 + (d * 2 ^ j - 4503599627370496) = d * 2 ^ j by omega]
    have q : pw2 0 = pw2 (((1075 - j : Nat) : Int) - 1075) * 2 ^ j := pw2_step _ _ _ (by omega) (by omega)
    rw [q]; grind
end Go.Proofs.YtnccpddjdgndcaaGreatDoor.Nt
end

section
/- PRODUCTS AND QUOTIENTS OF WORDS are the number that is the nearest one. No walk. -/
namespace Go.Proofs.YtnccpddjdgndcaaGreatDoor.Nt
open Go.Proofs.YtnccpddjdgndcaaGreatDoor.Fmt Ieee
theorem pw2_split (a b c : Int) (h : a + b = c) (ha : -900 ≤ a) (hb : -900 ≤ b) : pw2 a * pw2 b = pw2 c * pw2 0 :=
  pw2_add a b c 0 (by omega) (by omega) (by omega) (by omega) (by omega)
/-- the three bounds, of a number told as digits times a power of ten -/
theorem inr_up (b d k : Nat) (h : InR b (d * pw2 0 * pw10 k)) :
    lowQ b * pw2 (bE b - 2) ≤ d * 10 ^ k * pw2 0 ∧ d * 10 ^ k * pw2 0 ≤ (4 * bM b + 2) * pw2 (bE b - 2) ∧
    (bM b % 2 = 1 → lowQ b * pw2 (bE b - 2) < d * 10 ^ k * pw2 0 ∧ d * 10 ^ k * pw2 0 < (4 * bM b + 2) * pw2 (bE b - 2)) := by
  obtain ⟨h1, h2, h3⟩ := h
  have P := pw10_pos 0
  have e : d * pw2 0 * pw10 k = d * 10 ^ k * pw2 0 * pw10 0 := by
    rw [pw10_step 0 k k (by omega) (by omega)]; grind
  rw [e] at h1 h2 h3
  exact ⟨Nat.le_of_mul_le_mul_right h1 P, Nat.le_of_mul_le_mul_right h2 P, fun h => ⟨Nat.lt_of_mul_lt_mul_right (h3 h).1, Nat.lt_of_mul_lt_mul_right (h3 h).2⟩⟩
theorem inr_down (b d k : Nat) (hk : k ≤ 300) (h : InR b (d * pw2 0 * pw10 (-(k : Int)))) :
    lowQ b * pw2 (bE b - 2) * 10 ^ k ≤ d * pw2 0 ∧ d * pw2 0 ≤ (4 * bM b + 2) * pw2 (bE b - 2) * 10 ^ k ∧
    (bM b % 2 = 1 → lowQ b * pw2 (bE b - 2) * 10 ^ k < d * pw2 0 ∧ d * pw2 0 < (4 * bM b + 2) * pw2 (bE b - 2) * 10 ^ k) := by
  obtain ⟨h1, h2, h3⟩ := h
  have P := pw10_pos (-(k : Int))
  have e := pw10_step (-(k : Int)) 0 k (by omega) (by omega)
  rw [e] at h1 h2 h3
  have a1 : ∀ x, x * (pw10 (-(k : Int)) * 10 ^ k) = x * 10 ^ k * pw10 (-(k : Int)) := by intro x; grind
  simp only [a1] at h1 h2 h3
  exact ⟨Nat.le_of_mul_le_mul_right h1 P, Nat.le_of_mul_le_mul_right h2 P, fun h => ⟨Nat.lt_of_mul_lt_mul_right (h3 h).1, Nat.lt_of_mul_lt_mul_right (h3 h).2⟩⟩
/-- a whole number's word times ten's word -/
theorem mul_word (s t : Bool) (a c b d k : Nat) (h1 : 1 ≤ b) (h2 : b < 9218868437227405312) (ha : 1 ≤ a) (ha2 : a < 9218868437227405312) (hc : 1 ≤ c) (hc2 : c < 9218868437227405312)
    (ea : bM a * pw2 (bE a) = d * pw2 0) (ec : bM c * pw2 (bE c) = 10 ^ k * pw2 0) (hba : -900 ≤ bE a) (hba2 : bE a ≤ 900) (hbc : -900 ≤ bE c) (hbc2 : bE c ≤ 900)
    (h : InR b (d * pw2 0 * pw10 k)) : double.mul (double.word s a) (double.word t c) = some (double.word (s ^^ t) b) := by
  obtain ⟨r1, r2, r3⟩ := inr_up b d k h
  obtain ⟨f1, _⟩ := bM_facts a ha ha2
  obtain ⟨g1, _⟩ := bM_facts c hc hc2
  have e : bM a * bM c * pw2 (bE a + bE c) = d * 10 ^ k * pw2 0 := by
    have q := pw2_split (bE a) (bE c) _ rfl hba hbc
    have P := pw2_pos 0
    have : bM a * bM c * pw2 (bE a + bE c) * pw2 0 = d * 10 ^ k * pw2 0 * pw2 0 := by
      rw [Nat.mul_assoc (bM a * bM c), ← q, show bM a * bM c * (pw2 (bE a) * pw2 (bE c)) = (bM a * pw2 (bE a)) * (bM c * pw2 (bE c)) by grind, ea, ec]; grind
    exact Nat.eq_of_mul_eq_mul_right P this
  unfold Format.mul
  rw [read_word s a ha2, read_word t c hc2]
  show some (double.nearest _ _ _) = _
  refine congrArg some ?_
  rw [← e] at r1 r2 r3
  exact nearest_of _ b _ _ h1 h2 (Nat.ne_of_gt (Nat.mul_pos f1 g1)) (by omega) (by omega) r1 r2 r3
/-- a quotient's digits and what is left, against c in twos -/
theorem div_side (d k m n c D q : Nat) (i j e P : Int) (more C : Nat) (hn : 1 ≤ n) (e1 : m * pw2 i = d * pw2 0) (e2 : n * pw2 j = 10 ^ k * pw2 0) (hP : P = i - j - more - 1) (hC : C = c * 2 ^ (e - P - 1).toNat) (he : P + 1 ≤ e)
    (hD : D = m * 2 ^ more) (hq : q = 2 * (D / n) + (D % n != 0).toNat) (hi : -600 ≤ i) (hi2 : i ≤ 600) (hj : -600 ≤ j) (hj2 : j ≤ 600) (hm : more ≤ 600) :
    (c * pw2 e * 10 ^ k ≤ d * pw2 0 → c * pw2 e ≤ q * pw2 P) ∧ (c * pw2 e * 10 ^ k < d * pw2 0 → c * pw2 e < q * pw2 P) ∧
    (d * pw2 0 ≤ c * pw2 e * 10 ^ k → q * pw2 P ≤ c * pw2 e) ∧ (d * pw2 0 < c * pw2 e * 10 ^ k → q * pw2 P < c * pw2 e) := by
  have X := pw2_pos 0
  have Z := Nat.mul_pos (pw2_pos (P + 1)) (pw2_pos j)
  have t1 : pw2 e = pw2 (P + 1) * 2 ^ (e - P - 1).toNat := pw2_step _ _ _ (by omega) (by omega)
  have t2 : pw2 i = pw2 (i - more) * 2 ^ more := pw2_step _ _ _ (by omega) (by omega)
  have t3 : pw2 (P + 1) * pw2 j = pw2 (i - more) * pw2 0 := pw2_add _ _ _ _ (by omega) (by omega) (by omega) (by omega) (by omega)
  have t4 : pw2 (P + 1) = pw2 P * 2 ^ 1 := pw2_step _ _ _ (by omega) (by omega)
  have h1 : c * pw2 e * 10 ^ k * pw2 0 = C * n * (pw2 (P + 1) * pw2 j) := by
    rw [show C * n * (pw2 (P + 1) * pw2 j) = C * pw2 (P + 1) * (n * pw2 j) by grind, e2, hC, t1]; grind
  have h2 : d * pw2 0 * pw2 0 = D * (pw2 (P + 1) * pw2 j) := by
    rw [← e1, hD, t3, t2]; grind
  have u1 := le_turn X Z h1 h2
  have u2 := le_turn X Z h2 h1
  have cp : c * pw2 e = 2 * C * pw2 P := by rw [t1, hC, t4]; grind
  rw [u1.1, u1.2, u2.1, u2.2, cp]
  have hdm := Nat.div_add_mod D n
  have hr := Nat.mod_lt D (show n > 0 by omega)
  have hq2 : q = 2 * (D / n) + (if D % n = 0 then 0 else 1) := by
    rw [hq]
    by_cases z : D % n = 0
    · rw [z]; rfl
    · rw [if_neg z, show (D % n != 0) = true by simp [z]]; rfl
  generalize D / n = Q at *
  generalize D % n = R at *
  have m1 : ∀ y, n * y + n * 1 = n * (y + 1) := by intro y; grind
  refine ⟨fun h => Nat.mul_le_mul_right _ ?_, fun h => Nat.mul_lt_mul_of_pos_right ?_ (pw2_pos P), fun h => Nat.mul_le_mul_right _ ?_, fun h => Nat.mul_lt_mul_of_pos_right ?_ (pw2_pos P)⟩
  · have : C ≤ Q := by
      rcases Nat.lt_or_ge Q C with g | g
      · have := Nat.mul_le_mul_left n (show Q + 1 ≤ C by omega)
        rw [← m1, Nat.mul_comm n C] at this; omega
      · exact g
    split at hq2 <;> omega
  · rcases Nat.lt_or_ge Q C with g | g
    · have := Nat.mul_le_mul_left n (show Q + 1 ≤ C by omega)
      rw [← m1, Nat.mul_comm n C] at this; omega
    · by_cases g2 : C = Q
      · subst g2
        rw [Nat.mul_comm C n] at h
        split at hq2 <;> omega
      · split at hq2 <;> omega
  · rcases Nat.lt_or_ge Q C with g | g
    · split at hq2 <;> omega
    · have := Nat.mul_le_mul_left n g
      rw [Nat.mul_comm n C] at this
      have r0 : R = 0 := by omega
      have : n * Q = n * C := by rw [Nat.mul_comm n C]; omega
      have := Nat.eq_of_mul_eq_mul_left (show 0 < n by omega) this
      rw [if_pos r0] at hq2
      omega
  · have : Q < C := by
      rcases Nat.lt_or_ge Q C with g | g
      · exact g
      · have := Nat.mul_le_mul_left n g
        rw [Nat.mul_comm n C] at this; omega
    split at hq2 <;> omega
/-- a whole number's word over ten's word -/
theorem div_word (s t : Bool) (a c b d k : Nat) (h1 : 1 ≤ b) (h2 : b < 9218868437227405312) (ha : 1 ≤ a) (ha2 : a < 9218868437227405312) (hc : 1 ≤ c) (hc2 : c < 9218868437227405312) (hk : k ≤ 300)
    (ea : bM a * pw2 (bE a) = d * pw2 0) (ec : bM c * pw2 (bE c) = 10 ^ k * pw2 0) (hba : -600 ≤ bE a) (hba2 : bE a ≤ 600) (hbc : -600 ≤ bE c) (hbc2 : bE c ≤ 600)
    (h : InR b (d * pw2 0 * pw10 (-(k : Int)))) : double.div (double.word s a) (double.word t c) = some (double.word (s ^^ t) b) := by
  obtain ⟨r1, r2, r3⟩ := inr_down b d k hk h
  obtain ⟨f1, f2, _⟩ := bM_facts a ha ha2
  obtain ⟨g1, g2, _⟩ := bM_facts c hc hc2
  obtain ⟨b1, b2, b3, b4, b5, b6, b7⟩ := bM_facts b h1 h2
  unfold Format.div
  rw [read_word s a ha2, read_word t c hc2]
  show Option.map double.write (if bM c = 0 then (if bM a = 0 then none else some (Datum.infinity (s ^^ t))) else
    some (Datum.number (s ^^ t) (2 * ((bM a <<< (double.fractionBits + 2 + (bM c).log2 - (bM a).log2)) / bM c) + ((bM a <<< (double.fractionBits + 2 + (bM c).log2 - (bM a).log2)) % bM c != 0).toNat) (bE a - bE c - ((double.fractionBits + 2 + (bM c).log2 - (bM a).log2 : Nat) : Int) - 1))) = _
  rw [if_neg (show bM c ≠ 0 by omega)]
  show some (double.nearest _ _ _) = _
  refine congrArg some ?_
  generalize bM a = m at *
  generalize bM c = n at *
  generalize bE a = i at *
  generalize bE c = j at *
  rw [Nat.shiftLeft_eq]
  have hm0 : m ≠ 0 := by omega
  have hn0 : n ≠ 0 := by omega
  have m1 := Nat.log2_self_le hm0
  have m2 := Nat.lt_log2_self (n := m)
  have n1 := Nat.log2_self_le hn0
  have n2 := Nat.lt_log2_self (n := n)
  have ml : m.log2 ≤ 53 := by
    have : 2 ^ m.log2 < 2 ^ 54 := Nat.lt_of_le_of_lt m1 (by omega)
    have := (Nat.pow_lt_pow_iff_right (by decide : 1 < 2)).1 this
    omega
  have nl : n.log2 ≤ 53 := by
    have : 2 ^ n.log2 < 2 ^ 54 := Nat.lt_of_le_of_lt n1 (by omega)
    have := (Nat.pow_lt_pow_iff_right (by decide : 1 < 2)).1 this
    omega
  obtain ⟨more, hmore⟩ : ∃ more : Nat, double.fractionBits + 2 + n.log2 - m.log2 = more := ⟨_, rfl⟩
  rw [hmore]
  rw [frac_eq] at hmore
  have hq0 : 9007199254740992 ≤ m * 2 ^ more / n := by
    rw [Nat.le_div_iff_mul_le (by omega)]
    have c1 := Nat.mul_le_mul_right (2 ^ more) m1
    rw [← Nat.pow_add, show m.log2 + more = n.log2 + 1 + 53 by omega, Nat.pow_add, show (2 : Nat) ^ 53 = 9007199254740992 by decide] at c1
    omega
  obtain ⟨P, hP⟩ : ∃ P : Int, i - j - (more : Nat) - 1 = P := ⟨_, rfl⟩
  rw [hP]
  obtain ⟨q, hq⟩ : ∃ q, 2 * (m * 2 ^ more / n) + (m * 2 ^ more % n != 0).toNat = q := ⟨_, rfl⟩
  rw [hq]
  have side := fun (c' : Nat) (e : Int) (he : P + 1 ≤ e) => div_side d k m n c' (m * 2 ^ more) q i j e P more _ (by omega) ea ec hP.symm rfl he rfl hq.symm (by omega) (by omega) (by omega) (by omega) (by omega)
  have t4 : pw2 (P + 1) = pw2 P * 2 ^ 1 := pw2_step _ _ _ (by omega) (by omega)
  have hPe : P + 1 ≤ bE b - 1 := by
    have s1 := (side (m * 2 ^ more / n) (P + 1) (by omega))
    -- the quotient's whole part is not above the number
    have w0 : q * pw2 P ≤ (4 * bM b + 2) * pw2 (bE b - 2) ∨ P + 1 ≤ bE b - 1 := by
      rcases Int.lt_or_le (bE b - 2) (P + 1) with g | g
      · right
        -- then the number would be too great
        rcases Int.lt_or_le (bE b - 1) (P + 1) with g2 | g2
        · exfalso
          have s2 := (side 9007199254740992 (P + 1) (by omega))
          have z : pw2 (P + 1) = pw2 (bE b - 2) * 2 ^ (P + 1 - (bE b - 2)).toNat := pw2_step _ _ _ (by omega) (by omega)
          have z2 : 2 ^ 2 ≤ 2 ^ (P + 1 - (bE b - 2)).toNat := Nat.pow_le_pow_right (by decide) (by omega)
          have z3 : (4 * bM b + 2) * pw2 (bE b - 2) * 10 ^ k < 9007199254740992 * pw2 (P + 1) * 10 ^ k := by
            refine Nat.mul_lt_mul_of_pos_right ?_ (Nat.pow_pos (by decide))
            rw [z]
            have := Nat.mul_le_mul_left (pw2 (bE b - 2)) z2
            have c4 : (4 * bM b + 2) * pw2 (bE b - 2) < 36028797018963968 * pw2 (bE b - 2) := Nat.mul_lt_mul_of_pos_right (by omega) (pw2_pos _)
            omega
          have z4 := s2.2.2.2 (Nat.lt_of_le_of_lt r2 z3)
          rw [t4] at z4
          have z5 : 9007199254740992 * (pw2 P * 2 ^ 1) = 18014398509481984 * pw2 P := by grind
          rw [z5] at z4
          have := Nat.lt_of_mul_lt_mul_right z4
          omega
        · exact g2
      · exact Or.inr (by omega)
    rcases w0 with w0 | w0
    · have c3 := Nat.mul_le_mul_right (pw2 P) (show 18014398509481984 ≤ q by omega)
      have c4 : (4 * bM b + 2) * pw2 (bE b - 2) < 36028797018963968 * pw2 (bE b - 2) := Nat.mul_lt_mul_of_pos_right (by omega) (pw2_pos _)
      have c5 : pw2 (P + 54) = pw2 P * 2 ^ 54 := pw2_step _ _ _ (by omega) (by omega)
      have c6 : pw2 (bE b + 53) = pw2 (bE b - 2) * 2 ^ 55 := pw2_step _ _ _ (by omega) (by omega)
      rw [show (2 : Nat) ^ 54 = 18014398509481984 by decide] at c5
      rw [show (2 : Nat) ^ 55 = 36028797018963968 by decide] at c6
      have := pw2_lt (a := P + 54) (b := bE b + 53) (by omega) (by omega)
      omega
    · exact w0
  have t5 : pw2 (bE b - 1) = pw2 (bE b - 2) * 2 ^ 1 := pw2_step _ _ _ (by omega) (by omega)
  have up := side (2 * bM b + 1) (bE b - 1) hPe
  have u1 : (2 * bM b + 1) * pw2 (bE b - 1) = (4 * bM b + 2) * pw2 (bE b - 2) := by rw [t5]; grind
  rw [u1] at up
  have lo : (lowQ b * pw2 (bE b - 2) ≤ q * pw2 P) ∧ (bM b % 2 = 1 → lowQ b * pw2 (bE b - 2) < q * pw2 P) := by
    by_cases hz : bman b = 0 ∧ 2 ≤ bexp b
    · have hM : bM b = 4503599627370496 := by unfold bM; rw [if_neg (by omega), hz.1]
      refine ⟨?_, fun h => by rw [hM] at h; omega⟩
      rcases Int.lt_or_le (bE b - 2) (P + 1) with g | g
      · obtain rfl : P = bE b - 2 := by omega
        refine Nat.mul_le_mul_right _ ?_
        have : lowQ b = 18014398509481983 := by unfold lowQ; rw [if_pos hz, hM]
        omega
      · exact (side (lowQ b) (bE b - 2) g).1 r1
    · have hl : lowQ b = 2 * (2 * bM b - 1) := by unfold lowQ; rw [if_neg hz]; omega
      have l1 : (2 * bM b - 1) * pw2 (bE b - 1) = lowQ b * pw2 (bE b - 2) := by rw [t5, hl]; grind
      have sd := side (2 * bM b - 1) (bE b - 1) hPe
      rw [l1] at sd
      exact ⟨sd.1 r1, fun h => sd.2.1 (r3 h).1⟩
  exact nearest_of _ b q P h1 h2 (by omega) (by omega) (by omega) lo.1 (up.2.2.1 r2) (fun h => ⟨lo.2 h, up.2.2.2 (r3 h).2⟩)
end Go.Proofs.YtnccpddjdgndcaaGreatDoor.Nt
end

section
/- WHAT parseFloat64 ANSWERS is the number that is the nearest one. No walk. -/
namespace Go.Proofs.YtnccpddjdgndcaaGreatDoor.Pf
open Go.RowKit Go.Proofs.YtnccpddjdgndcaaGreatDoor.Fmt Go.Proofs.YtnccpddjdgndcaaGreatDoor.Nt Ieee
def sgN (neg : Bool) : Nat := if neg then 9223372036854775808 else 0
theorem word_eq (neg : Bool) (b : Nat) : double.word neg b = sgN neg + b := by
  unfold Format.word sgN
  have : double.signWeight = 9223372036854775808 := by decide
  rw [this]
  split <;> omega
end Go.Proofs.YtnccpddjdgndcaaGreatDoor.Pf
end

section
/- THE EXACT ROAD: a whole number's word times ten's word, or over it, is the number that is the nearest one. No walk. -/
namespace Go.Proofs.YtnccpddjdgndcaaGreatDoor.Pf
open Go.RowKit Go.Proofs.YtnccpddjdgndcaaGreatDoor.Fmt Go.Proofs.YtnccpddjdgndcaaGreatDoor.Nt Ieee
def tens : List Nat := [4607182418800017408, 4621819117588971520, 4636737291354636288, 4652007308841189376, 4666723172467343360, 4681608360884174848, 4696837146684686336, 4711630319722168320, 4726483295884279808, 4741671816366391296, 4756540486875873280, 4771362005757984768, 4786511204640096256, 4801453603149578240, 4816244402031689728, 4831355200913801216, 4846369599423283200, 4861130398305394688, 4876203697187506176, 4891288408196988160, 4906019910204099648, 4921056587992461136, 4936209963552724370]
def tn (k : Nat) : Nat := tens.getD k 0
theorem tens_ok : ∀ k, k < 23 → 1 ≤ tn k ∧ tn k < 9218868437227405312 ∧ bM (tn k) * pw2 (bE (tn k)) = 10 ^ k * pw2 0 ∧ -60 ≤ bE (tn k) ∧ bE (tn k) ≤ 60 := by decide +kernel
theorem exact_bds (b d : Nat) (h1 : 1 ≤ b) (h2 : b < 9218868437227405312) (hd : 1 ≤ d) (hd2 : d ≤ 9007199254740992) (e : bM b * pw2 (bE b) = d * pw2 0) : -60 ≤ bE b ∧ bE b ≤ 60 := by
  obtain ⟨f1, f2, f3, f4, _⟩ := bM_facts b h1 h2
  have P := pw2_pos (bE b)
  constructor
  · have c1 : pw2 (bE b + 53) = pw2 (bE b) * 2 ^ 53 := pw2_step _ _ _ (by omega) (by omega)
    have c2 : bM b * pw2 (bE b) < 9007199254740992 * pw2 (bE b) := Nat.mul_lt_mul_of_pos_right (by omega) P
    have c3 := Nat.mul_le_mul_right (pw2 0) hd
    rw [show (2 : Nat) ^ 53 = 9007199254740992 by decide] at c1
    have := pw2_lt (a := 0) (b := bE b + 53) (by omega) (by omega)
    omega
  · have c1 : pw2 (54 : Int) = pw2 0 * 2 ^ 54 := pw2_step _ _ _ (by omega) (by omega)
    have c2 := Nat.mul_le_mul_right (pw2 (bE b)) f1
    have c3 := Nat.mul_le_mul_right (pw2 0) hd2
    rw [show (2 : Nat) ^ 54 = 18014398509481984 by decide] at c1
    have p0 := pw2_pos 0
    have := pw2_lt (a := bE b) (b := 54) (by omega) (by omega)
    omega
theorem inr_self (b : Nat) (h1 : 1 ≤ b) (h2 : b < 9218868437227405312) : InR b (bM b * pw2 (bE b) * pw10 0) := by
  obtain ⟨f1, f2, f3, f4, f5, _⟩ := bM_facts b h1 h2
  have e : pw2 (bE b) = pw2 (bE b - 2) * 2 ^ 2 := pw2_step _ _ _ (by omega) (by omega)
  have hl : lowQ b < 4 * bM b := by unfold lowQ; split <;> omega
  have X := Nat.mul_pos (pw2_pos (bE b - 2)) (pw10_pos 0)
  have e1 : bM b * pw2 (bE b) * pw10 0 = (4 * bM b) * (pw2 (bE b - 2) * pw10 0) := by rw [e]; grind
  unfold InR
  rw [e1, Nat.mul_assoc (lowQ b), Nat.mul_assoc (4 * bM b + 2)]
  have a1 := Nat.mul_lt_mul_of_pos_right hl X
  have a2 := Nat.mul_lt_mul_of_pos_right (show 4 * bM b < 4 * bM b + 2 by omega) X
  exact ⟨Nat.le_of_lt a1, Nat.le_of_lt a2, fun _ => ⟨a1, a2⟩⟩
theorem inr_whole (b d k : Nat) (h1 : 1 ≤ b) (h2 : b < 9218868437227405312) (e : bM b * pw2 (bE b) = d * 10 ^ k * pw2 0) : InR b (d * pw2 0 * pw10 k) := by
  have h := inr_self b h1 h2
  rw [e] at h
  have e2 : d * 10 ^ k * pw2 0 * pw10 0 = d * pw2 0 * pw10 k := by rw [pw10_step 0 k k (by omega) (by omega)]; grind
  rw [← e2]; exact h
/-- a whole number's own word -/
theorem ex_zero (neg : Bool) (b0 b d : Nat) (h1 : 1 ≤ b) (h2 : b < 9218868437227405312) (hd : 1 ≤ d) (e : double.nearest neg d 0 = double.word neg b0) (hr : InR b (d * pw2 0 * pw10 0)) : double.word neg b0 = double.word neg b := by
  obtain ⟨r1, r2, r3⟩ := inr_up b d 0 hr
  rw [Nat.pow_zero, Nat.mul_one] at r1 r2 r3
  rw [← e]
  exact nearest_of neg b d 0 h1 h2 (by omega) (by omega) (by omega) r1 r2 r3
/-- a product or a quotient of numbers is there -/
theorem mul_some (s t : Bool) (a c : Nat) (ha : a < 9218868437227405312) (hc : c < 9218868437227405312) : ∃ r, double.mul (double.word s a) (double.word t c) = some (double.word (s ^^ t) r) ∧ r ≤ 9218868437227405312 ∧
    double.nearest (s ^^ t) (bM a * bM c) (bE a + bE c) = double.word (s ^^ t) r := by
  unfold Format.mul
  rw [read_word s a ha, read_word t c hc]
  show ∃ r, some (double.nearest (s ^^ t) (bM a * bM c) (bE a + bE c)) = _ ∧ _
  unfold Format.nearest
  split
  · exact ⟨0, rfl, by omega, rfl⟩
  · refine ⟨_, rfl, ?_, rfl⟩
    rw [inf_eq]
    exact Nat.min_le_right _ _
theorem div_some (s t : Bool) (a c : Nat) (ha : a < 9218868437227405312) (hc1 : 1 ≤ c) (hc : c < 9218868437227405312) : ∃ r, double.div (double.word s a) (double.word t c) = some r := by
  obtain ⟨f1, _⟩ := bM_facts c hc1 hc
  unfold Format.div
  rw [read_word s a ha, read_word t c hc]
  show ∃ r, Option.map double.write (if bM c = 0 then (if bM a = 0 then none else some (Datum.infinity (s ^^ t))) else some _) = some r
  rw [if_neg (by omega)]
  exact ⟨_, rfl⟩
theorem rung_big (Q K r : Nat) (hQ : 1075 ≤ Q) (hK : 4503599627370496 ≤ K) (e : min (Q * 4503599627370496 + K) 9218868437227405312 = r) : 4845873199050653696 ≤ r := by
  have hq := Nat.mul_le_mul_right 4503599627370496 hQ
  have h5 := Nat.add_le_add hq hK
  rw [← e]
  exact Nat.le_min.2 ⟨h5, by decide⟩
theorem big_rung (neg : Bool) (mag : Nat) (place : Int) (hm : mag ≠ 0) (hp0 : -1000 ≤ place) (hp1 : place ≤ 1000) (h : 9007199254740992 * pw2 0 ≤ mag * pw2 place) (r : Nat) (_hr : r ≤ 9218868437227405312) (e : double.nearest neg mag place = double.word neg r) : 4845873199050653696 ≤ r := by
  have hL1 := Nat.log2_self_le hm
  have hL2 := Nat.lt_log2_self (n := mag)
  have k : 53 ≤ place + (mag.log2 : Int) := by
    have c1 : pw2 (place + mag.log2 + 1) = pw2 place * 2 ^ (mag.log2 + 1) := pw2_step _ _ _ (by omega) (by omega)
    have c2 : pw2 (53 : Int) = pw2 0 * 2 ^ 53 := pw2_step _ _ _ (by omega) (by omega)
    have c3 : mag * pw2 place < 2 ^ (mag.log2 + 1) * pw2 place := Nat.mul_lt_mul_of_pos_right hL2 (pw2_pos _)
    rw [show (2 : Nat) ^ 53 = 9007199254740992 by decide] at c2
    have := pw2_lt (a := (53 : Int)) (b := place + (mag.log2 : Int) + 1) (by omega) (by rw [c1, c2, Nat.mul_comm (pw2 place), Nat.mul_comm (pw2 0)]; omega)
    omega
  rw [word_eq] at e
  unfold Format.nearest at e
  rw [if_neg hm] at e
  simp only [least_eq, binade_eq, inf_eq, frac_eq, word_eq] at e
  have hlast : max (place + (mag.log2 : Int) - (52 : Nat)) (-1074) = place + (mag.log2 : Int) - 52 := by omega
  rw [hlast] at e
  have hc : 4503599627370496 ≤ Toward.even.cut neg (mag <<< (place - (place + (mag.log2 : Int) - 52)).toNat) (place + (mag.log2 : Int) - 52 - place).toNat := by
    unfold Toward.cut
    simp only [Nat.shiftLeft_eq, Nat.one_mul]
    refine Nat.le_trans ?_ (Nat.le_add_right _ _)
    rcases Nat.lt_or_ge mag.log2 52 with g | g
    · rw [show (place + (mag.log2 : Int) - 52 - place).toNat = 0 by omega, Nat.zero_min, Nat.pow_zero, Nat.div_one]
      have := Nat.mul_le_mul_right (2 ^ (place - (place + (mag.log2 : Int) - 52)).toNat) hL1
      rw [← Nat.pow_add, show mag.log2 + (place - (place + (mag.log2 : Int) - 52)).toNat = 52 by omega] at this
      omega
    · rw [show (place - (place + (mag.log2 : Int) - 52)).toNat = 0 by omega, Nat.pow_zero, Nat.mul_one, show (place + (mag.log2 : Int) - 52 - place).toNat = mag.log2 - 52 by omega, Nat.min_eq_left (by omega), Nat.le_div_iff_mul_le (Nat.two_pow_pos _)]
      rw [show (4503599627370496 : Nat) = 2 ^ 52 by decide, ← Nat.pow_add, show 52 + (mag.log2 - 52) = mag.log2 by omega]
      exact hL1
  obtain ⟨K, hK⟩ : ∃ K, Toward.even.cut neg (mag <<< (place - (place + (mag.log2 : Int) - 52)).toNat) (place + (mag.log2 : Int) - 52 - place).toNat = K := ⟨_, rfl⟩
  obtain ⟨Q, hQ⟩ : ∃ Q, (place + (mag.log2 : Int) - 52 - -1074).toNat = Q := ⟨_, rfl⟩
  rw [hK] at hc e
  rw [hQ] at e
  have hQ2 : 1075 ≤ Q := by omega
  clear hK hQ hlast hL1 hL2 h k
  have e2 := Nat.add_left_cancel e
  exact rung_big Q K r hQ2 hc e2
theorem lt_big (neg : Bool) (r : Nat) (h : 4845873199050653696 ≤ r) (h2 : r ≤ 9218868437227405312) : Flt.lt 4831355200913801216 (double.word neg r) = true ∨ Flt.lt (double.word neg r) 14054727237768577024 = true := by
  have c1 : Flt.nan 4831355200913801216 = false ∧ Flt.sk 4831355200913801216 = 4831355200913801216 := by decide +kernel
  have c2 : Flt.nan 14054727237768577024 = false ∧ Flt.sk 14054727237768577024 = -4831355200913801216 := by decide +kernel
  have p63 : (2 : Nat) ^ 63 = 9223372036854775808 := by decide
  rw [word_eq]
  have hrg : Flt.rung (sgN neg + r) = r := by
    unfold Flt.rung sgN
    rw [p63]
    split <;> omega
  have hnn : Flt.nan (sgN neg + r) = false := by
    unfold Flt.nan
    rw [hrg, decide_eq_false_iff_not, show Flt.inf = 9218868437227405312 by decide]
    omega
  have hng : Flt.neg (sgN neg + r) = neg := by
    unfold Flt.neg sgN
    rw [p63]
    cases neg
    · rw [if_neg (by decide), Nat.zero_add, Nat.div_eq_of_lt (by omega)]; rfl
    · rw [if_pos rfl, show (9223372036854775808 + r) / 9223372036854775808 = 1 by omega]; rfl
  have hsk : Flt.sk (sgN neg + r) = if neg then -(r : Int) else (r : Int) := by unfold Flt.sk; rw [hng, hrg]
  unfold Flt.lt
  rw [c1.1, c1.2, c2.1, c2.2, hnn, hsk]
  cases neg
  · left
    simp only [Bool.not_false, Bool.true_and, Bool.false_eq_true, if_false, decide_eq_true_eq]
    omega
  · right
    simp only [Bool.not_false, Bool.true_and, if_true, decide_eq_true_eq]
    omega
/-- digits times a small power of ten -/
theorem ex_mul (neg : Bool) (b0 b d k : Nat) (hk : k < 23) (h1 : 1 ≤ b) (h2 : b < 9218868437227405312) (a1 : 1 ≤ b0) (a2 : b0 < 9218868437227405312) (hd : 1 ≤ d) (hd2 : d ≤ 9007199254740992) (e : bM b0 * pw2 (bE b0) = d * pw2 0) (hr : InR b (d * pw2 0 * pw10 k)) :
    double.mul (double.word neg b0) (tn k) = some (double.word neg b) := by
  obtain ⟨t1, t2, t3, t4, t5⟩ := tens_ok k hk
  obtain ⟨q1, q2⟩ := exact_bds b0 d a1 a2 hd hd2 e
  have h := mul_word neg false b0 (tn k) b d k h1 h2 a1 a2 t1 t2 e t3 (by omega) (by omega) (by omega) (by omega) hr
  rw [word_eq false] at h
  simpa [sgN] using h
theorem ex_div (neg : Bool) (b0 b d k : Nat) (hk : k < 23) (h1 : 1 ≤ b) (h2 : b < 9218868437227405312) (a1 : 1 ≤ b0) (a2 : b0 < 9218868437227405312) (hd : 1 ≤ d) (hd2 : d ≤ 9007199254740992) (e : bM b0 * pw2 (bE b0) = d * pw2 0) (hr : InR b (d * pw2 0 * pw10 (-(k : Int)))) :
    double.div (double.word neg b0) (tn k) = some (double.word neg b) := by
  obtain ⟨t1, t2, t3, t4, t5⟩ := tens_ok k hk
  obtain ⟨q1, q2⟩ := exact_bds b0 d a1 a2 hd hd2 e
  have h := div_word neg false b0 (tn k) b d k h1 h2 a1 a2 t1 t2 (by omega) e t3 (by omega) (by omega) (by omega) (by omega) hr
  rw [word_eq false] at h
  simpa [sgN] using h
/-- digits times a greater power of ten, in two steps -/
theorem ex_mul2 (neg : Bool) (b0 d k H : Nat) (hk : k < 16) (a1 : 1 ≤ b0) (a2 : b0 < 9218868437227405312) (hd : 1 ≤ d) (hd2 : d ≤ 9007199254740992) (e : bM b0 * pw2 (bE b0) = d * pw2 0) (hH : double.mul (double.word neg b0) (tn k) = some H)
    (l1 : Flt.lt 4831355200913801216 H = false) (l2 : Flt.lt H 14054727237768577024 = false) : (∃ r, double.mul H (tn 22) = some r) ∧ ∀ b r, 1 ≤ b → b < 9218868437227405312 → InR b (d * pw2 0 * pw10 ((k + 22 : Nat) : Int)) → double.mul H (tn 22) = some r → r = double.word neg b := by
  obtain ⟨t1, t2, t3, t4, t5⟩ := tens_ok k (by omega)
  obtain ⟨q1, q2⟩ := exact_bds b0 d a1 a2 hd hd2 e
  obtain ⟨r, m1, m2, m3⟩ := mul_some neg false b0 (tn k) a2 t2
  have hw : double.word false (tn k) = tn k := by rw [word_eq]; simp [sgN]
  rw [hw, Bool.xor_false] at m1
  rw [Bool.xor_false] at m3
  rw [hH] at m1
  have hHr := Option.some.inj m1
  have hval : bM b0 * bM (tn k) * pw2 (bE b0 + bE (tn k)) = d * 10 ^ k * pw2 0 := by
    have q := pw2_split (bE b0) (bE (tn k)) _ rfl (by omega) (by omega)
    have P := pw2_pos 0
    refine Nat.eq_of_mul_eq_mul_right P ?_
    rw [Nat.mul_assoc (bM b0 * bM (tn k)), ← q, show bM b0 * bM (tn k) * (pw2 (bE b0) * pw2 (bE (tn k))) = (bM b0 * pw2 (bE b0)) * (bM (tn k) * pw2 (bE (tn k))) by grind, e, t3]; grind
  have hsm : d * 10 ^ k ≤ 9007199254740992 := by
    rcases Nat.lt_or_ge 9007199254740992 (d * 10 ^ k) with g | g
    · exfalso
      obtain ⟨f1, _⟩ := bM_facts b0 a1 a2
      obtain ⟨f2, _⟩ := bM_facts (tn k) t1 t2
      have hb := big_rung neg (bM b0 * bM (tn k)) (bE b0 + bE (tn k)) (Nat.ne_of_gt (Nat.mul_pos f1 f2)) (by omega) (by omega) (by rw [hval]; exact Nat.mul_le_mul_right _ (Nat.le_of_lt g)) r m2 m3
      rcases lt_big neg r hb m2 with q | q
      · rw [← hHr, l1] at q; cases q
      · rw [← hHr, l2] at q; cases q
    · exact g
  have hd3 : 1 ≤ d * 10 ^ k := Nat.mul_pos hd (Nat.pow_pos (by decide))
  obtain ⟨b1, x1, x2, x3, x4⟩ := exact_word neg (d * 10 ^ k) hd3 hsm
  have hH2 := ex_mul neg b0 b1 d k (by omega) x1 x2 a1 a2 hd hd2 e (inr_whole b1 d k x1 x2 x4)
  rw [hH] at hH2
  have hHb := Option.some.inj hH2
  obtain ⟨u1, u2, u3, u4, u5⟩ := tens_ok 22 (by decide)
  have hw2 : double.word false (tn 22) = tn 22 := by rw [word_eq]; simp [sgN]
  refine ⟨?_, ?_⟩
  · obtain ⟨r2, n1, _, _⟩ := mul_some neg false b1 (tn 22) x2 u2
    rw [hw2] at n1
    rw [hHb]
    exact ⟨_, n1⟩
  · intro b r2 h1 h2 hr hm
    have e2 : d * pw2 0 * pw10 ((k + 22 : Nat) : Int) = (d * 10 ^ k) * pw2 0 * pw10 ((22 : Nat) : Int) := by
      rw [pw10_step ((22 : Nat) : Int) ((k + 22 : Nat) : Int) k (by omega) (by omega)]; grind
    rw [e2] at hr
    have h3 := ex_mul neg b1 b (d * 10 ^ k) 22 (by decide) h1 h2 x1 x2 hd3 hsm x4 hr
    rw [hHb] at hm
    rw [hm] at h3
    exact Option.some.inj h3
end Go.Proofs.YtnccpddjdgndcaaGreatDoor.Pf
end

section
/- THE WALK OF strconv.atof64exact. -/
namespace Go.Proofs.YtnccpddjdgndcaaGreatDoor.Pf
open Go.RowKit Go.Proofs.YtnccpddjdgndcaaGreatDoor.Fmt Go.Proofs.YtnccpddjdgndcaaGreatDoor.Nt Ieee
/-- what the exact road reads: all of the table -/
structure PfW (w : World) : Prop where
  opt : w.cell? ⟨7, 0, none⟩ = some (.bool true)
  inf : w.cell? ⟨10, 0, none⟩ = some (.int .u64 52)
  pow : ∃ R o c : Nat, w.cell? ⟨13, 0, none⟩ = some (.slice (some ⟨R, o, none⟩) 23 c) ∧ ∀ k, k < 23 → w.cell? ⟨R, o + k, none⟩ = some (.float .f64 (tn k))
theorem PfW.below {w w' : World} {B : Nat} (h : PfW w) (hb : Below B w w') (hB : w.heap.size ≤ B) : PfW w' := by
  obtain ⟨h1, h2, R, o, c, h3, h4⟩ := h
  exact ⟨Tab.cell_below hb hB h1, Tab.cell_below hb hB h2, R, o, c, Tab.cell_below hb hB h3, fun k hk => Tab.cell_below hb hB (h4 k hk)⟩
theorem run_mul (x y r : Nat) (h : double.mul x y = some r) (w : World) : (binOp .mul 23 (.float .f64 x) (.float .f64 y)).run Tryz.prog w = .ok (.float .f64 r) w := by
  have h2 : FloatKind.f64.format.mul x y = some r := h
  simp [binOp, Op.floatArith, h2]
theorem run_quo (x y r : Nat) (h : double.div x y = some r) (w : World) : (binOp .quo 23 (.float .f64 x) (.float .f64 y)).run Tryz.prog w = .ok (.float .f64 r) w := by
  have h2 : FloatKind.f64.format.div x y = some r := h
  simp [binOp, Op.floatArith, h2]
theorem ford_lt (a b : Nat) : (FloatKind.f64.format.order a b == some .lt) = Flt.lt a b := Flt.order_lt a b
theorem ford_gt (a b : Nat) : (FloatKind.f64.format.order a b == some .gt) = Flt.lt b a := Flt.order_gt a b
theorem un_neg (b : Nat) : Op.unary .neg (.float .f64 b) = pure (.float .f64 (Op.negFloat .f64 b)) := rfl
attribute [local go_sem] ford_lt ford_gt un_neg
theorem negF (b : Nat) (h : b < 9223372036854775808) : Op.negFloat .f64 b = sgN true + b := by
  unfold Op.negFloat
  have e : (2 : Nat) ^ (FloatKind.f64.format.exponentBits + FloatKind.f64.format.fractionBits) = 2 ^ 63 := by decide
  rw [e, show sgN true = 2 ^ 63 by decide]
  have h2 := Nat.two_pow_add_eq_or_of_lt (i := 63) (b := b) (by rw [show (2 : Nat) ^ 63 = 9223372036854775808 by decide]; exact h) 1
  rw [Nat.mul_one] at h2
  rw [h2]
  apply Nat.eq_of_testBit_eq
  intro i
  rw [Nat.testBit_xor, Nat.testBit_or, Nat.testBit_two_pow]
  by_cases hi : 63 = i
  · subst hi
    have : b.testBit 63 = false := Nat.testBit_lt_two_pow (by rw [show (2 : Nat) ^ 63 = 9223372036854775808 by decide]; exact h)
    rw [this]; simp
  · simp [hi]
theorem write_lt (d : Ieee.Datum) : double.write d < 18446744073709551616 := by
  have hw : ∀ (s : Bool) (r : Nat), r < 9223372036854775808 → double.word s r < 18446744073709551616 := fun s r hr => by
    rw [word_eq]
    have : sgN s ≤ 9223372036854775808 := by cases s <;> decide
    omega
  cases d with
  | number s m p =>
    show double.nearest s m p < _
    unfold Format.nearest
    split
    · exact hw _ _ (by decide)
    · refine hw _ _ (Nat.lt_of_le_of_lt (Nat.min_le_right _ _) ?_)
      rw [inf_eq]; decide
  | infinity s => exact hw _ _ (by rw [inf_eq]; decide)
  | nan s f =>
    refine hw _ _ ?_
    rw [inf_eq]
    have h1 : double.binade = 4503599627370496 := by decide
    rw [h1]
    have := Nat.mod_lt f (show 0 < 4503599627370496 by decide)
    omega
theorem mul_lt {x y r : Nat} (h : double.mul x y = some r) : r < 18446744073709551616 := by
  unfold Format.mul at h
  rw [Option.map_eq_some_iff] at h
  obtain ⟨d, _, e⟩ := h
  rw [← e]; exact write_lt d
theorem div_lt {x y r : Nat} (h : double.div x y = some r) : r < 18446744073709551616 := by
  unfold Format.div at h
  rw [Option.map_eq_some_iff] at h
  obtain ⟨d, _, e⟩ := h
  rw [← e]; exact write_lt d
/-- what the exact road answers -/
def ExP (d : Nat) (p : Int) (ng : Bool) (e : Ending) : Prop :=
  ∃ (x : Nat) (ok : Bool), e = .returned (.tuple #[.float .f64 x, .bool ok]) ∧ x < 18446744073709551616 ∧ (ok = true → ∀ b, 1 ≤ b → b < 9218868437227405312 → InR b (d * pw2 0 * pw10 p) → x = double.word ng b)
set_option maxRecDepth 20000 in
set_option maxHeartbeats 2000000 in
theorem exact_any (d : Nat) (p : Int) (ng : Bool) (hd : 1 ≤ d) (hd2 : d < 18446744073709551616) (hp0 : -1000 ≤ p) (hp1 : p ≤ 1000) (w : World) (hw : PfW w) :
    Calls Tryz.prog 158 #[.int .u64 d, .int .i64 p, .bool ng] w fun e w' => ExP d p ng e ∧ w = w' := by
  obtain ⟨_, hi, R, o, c, hs, ht⟩ := hw
  by_cases hbig : 4503599627370496 ≤ d
  · have h1 : ((d : Int) / 4503599627370496 != 0) = true := by simp; omega
    clear ht hs
    go_enter Tryz.func158, Tryz.ntmps158
    go_wp2
    refine bodyPost_ret (v := .tuple #[.float .f64 0, .bool false]) (by simp [results, Tryz.results158, go_sem]; try rfl) rfl ?_
    exact ⟨⟨_, false, rfl, (by first | decide | exact HFB.out | exact HGB.out | exact HHB.out), fun h => absurd h (by decide)⟩, rfl⟩
  have h1 : ((d : Int) / 4503599627370496 != 0) = false := by
    have : (d : Int) / 4503599627370496 = 0 := by omega
    rw [this]; rfl
  obtain ⟨b0, a1, a2, a3, a4⟩ := exact_word false d hd (by omega)
  have hfl : floatOfInt .f64 (d : Int) = b0 := by
    have e : floatOfInt .f64 (d : Int) = double.nearest false d 0 := by
      show double.nearest (decide ((d : Int) < 0)) ((d : Int).natAbs) 0 = _
      rw [decide_eq_false (by omega)]; rfl
    rw [e, a3, word_eq]; simp [sgN]
  have hng : Op.negFloat .f64 b0 = sgN true + b0 := negF b0 (by omega)
  obtain ⟨F, hF⟩ : ∃ F, sgN ng + b0 = F := ⟨_, rfl⟩
  have hFw : double.word ng b0 = F := by rw [word_eq, hF]
  have hFb : F < 18446744073709551616 := by
    rw [← hF]
    have : sgN ng ≤ 9223372036854775808 := by cases ng <;> decide
    omega
  have HFB := Lib.hid hFb
  clear hFb
  have hF2 : (if ng then Op.negFloat .f64 b0 else b0) = F := by
    rw [← hF, hng]; cases ng <;> simp [sgN]
  have hdd : d ≤ 9007199254740992 := by omega
  have hn : double.nearest ng d 0 = double.word ng b0 := by
    obtain ⟨b1, x1, x2, x3, x4⟩ := exact_word ng d hd hdd
    have := ex_zero ng b1 b0 d a1 a2 hd x3 (by
      have := inr_whole b0 d 0 a1 a2 (by rw [Nat.pow_zero, Nat.mul_one]; exact a4)
      exact this)
    rw [x3, this]
  have hmul := fun k (hk : k < 23) => mul_some ng false b0 (tn k) a2 (tens_ok k hk).2.1
  have hdiv := fun k (hk : k < 23) => div_some ng false b0 (tn k) a2 (tens_ok k hk).1 (tens_ok k hk).2.1
  have hw0 : ∀ k, double.word false (tn k) = tn k := fun k => by rw [word_eq]; simp [sgN]
  have E0 := fun b (h1 : 1 ≤ b) (h2 : b < 9218868437227405312) (hr : InR b (d * pw2 0 * pw10 0)) => ex_zero ng b0 b d h1 h2 hd hn hr
  have E1 := fun b (k : Nat) (hk : k < 23) (h1 : 1 ≤ b) (h2 : b < 9218868437227405312) (hr : InR b (d * pw2 0 * pw10 (k : Int))) => ex_mul ng b0 b d k hk h1 h2 a1 a2 hd hdd a4 hr
  have E2 := fun b (k : Nat) (hk : k < 23) (h1 : 1 ≤ b) (h2 : b < 9218868437227405312) (hr : InR b (d * pw2 0 * pw10 (-(k : Int)))) => ex_div ng b0 b d k hk h1 h2 a1 a2 hd hdd a4 hr
  have E3 := fun k H (hk : k < 16) (hH : double.mul (double.word ng b0) (tn k) = some H) (l1 : Flt.lt 4831355200913801216 H = false) (l2 : Flt.lt H 14054727237768577024 = false) => ex_mul2 ng b0 d k H hk a1 a2 hd hdd a4 hH l1 l2
  simp only [hw0, hFw] at hmul hdiv E0 E1 E2 E3
  have HM := Lib.hid hmul; have HD := Lib.hid hdiv; have H0 := Lib.hid E0; have H1 := Lib.hid E1; have H2 := Lib.hid E2; have H3 := Lib.hid E3; have HT := Lib.hid ht
  clear hmul hdiv hw0 E0 E1 E2 E3 ht hn a3 a4 hFw hng
  have hstart : (if ng then Op.negFloat .f64 b0 else b0) = F := hF2
  clear hF2 hF hdd hbig
  have HST := Lib.hid hstart
  clear hstart
  have go : ∀ (q : Unit), Calls Tryz.prog 158 #[.int .u64 d, .int .i64 p, .bool ng] w fun e w' => ExP d p ng e ∧ w = w' := by
    intro _
    by_cases p0 : p = 0
    · subst p0
      cases ng
      all_goals
        have hst := HST.out
        simp only [Bool.false_eq_true, if_false, if_true] at hst
        go_enter Tryz.func158, Tryz.ntmps158
        go_wp2
        refine bodyPost_ret (v := .tuple #[.float .f64 F, .bool true]) (by simp [results, Tryz.results158, go_sem]; try rfl) rfl ?_
        exact ⟨⟨_, true, rfl, (by first | decide | exact HFB.out | exact HGB.out | exact HHB.out), fun _ b h1 h2 hr => H0.out b h1 h2 hr⟩, rfl⟩
    have pb0 : (p == 0) = false := by simpa using p0
    by_cases pp : 0 < p ∧ p ≤ 37
    · obtain ⟨pp1, pp2⟩ := pp
      by_cases p22 : 22 < p
      · obtain ⟨k, rfl⟩ : ∃ k : Nat, p = (k : Int) + 22 := ⟨(p - 22).toNat, by omega⟩
        have hk : k < 16 := by omega
        obtain ⟨r, m1, m2, m3⟩ := HM.out k (by omega)
        rw [Bool.xor_false] at m1
        obtain ⟨H, hH⟩ : ∃ H, double.word ng r = H := ⟨_, rfl⟩
        rw [hH] at m1
        have HHB := Lib.hid (mul_lt m1)
        have rm := fun W => run_mul F (tn k) H m1 W
        have hc := HT.out k (by omega)
        have hc22 := HT.out 22 (by decide)
        have k1 : (0 : Int) ≤ (k : Int) := by omega
        have k2 : (k : Int) < 23 := by omega
        have M1 := Lib.hid m1
        clear m1 m2 m3 hH
        cases l1 : Flt.lt 4831355200913801216 H
        · cases l2 : Flt.lt H 14054727237768577024
          · obtain ⟨⟨G, g1⟩, g2⟩ := H3.out k H hk M1.out l1 l2
            have rm2 := fun W => run_mul H (tn 22) G g1 W
            have HGB := Lib.hid (mul_lt g1)
            have G1 := Lib.hid g1; have G2 := Lib.hid g2
            clear g1 g2
            cases ng
            all_goals
              have hst := HST.out
              simp only [Bool.false_eq_true, if_false, if_true] at hst
              go_enter Tryz.func158, Tryz.ntmps158
              go_wp2
              refine bodyPost_ret (v := .tuple #[.float .f64 G, .bool true]) (by simp [results, Tryz.results158, go_sem]; try rfl) rfl ?_
              exact ⟨⟨_, true, rfl, (by first | decide | exact HFB.out | exact HGB.out | exact HHB.out), fun _ b h1 h2 hr => G2.out b G h1 h2 hr G1.out⟩, rfl⟩
          · cases ng
            all_goals
              have hst := HST.out
              simp only [Bool.false_eq_true, if_false, if_true] at hst
              go_enter Tryz.func158, Tryz.ntmps158
              go_wp2
              refine bodyPost_ret (v := .tuple #[.float .f64 H, .bool false]) (by simp [results, Tryz.results158, go_sem]; try rfl) rfl ?_
              exact ⟨⟨_, false, rfl, (by first | decide | exact HFB.out | exact HGB.out | exact HHB.out), fun h => absurd h (by decide)⟩, rfl⟩
        · cases ng
          all_goals
            have hst := HST.out
            simp only [Bool.false_eq_true, if_false, if_true] at hst
            go_enter Tryz.func158, Tryz.ntmps158
            go_wp2
            refine bodyPost_ret (v := .tuple #[.float .f64 H, .bool false]) (by simp [results, Tryz.results158, go_sem]; try rfl) rfl ?_
            exact ⟨⟨_, false, rfl, (by first | decide | exact HFB.out | exact HGB.out | exact HHB.out), fun h => absurd h (by decide)⟩, rfl⟩
      · obtain ⟨k, rfl⟩ : ∃ k : Nat, p = (k : Int) := ⟨p.toNat, by omega⟩
        obtain ⟨r, m1, m2, m3⟩ := HM.out k (by omega)
        rw [Bool.xor_false] at m1
        obtain ⟨G, hG⟩ : ∃ G, double.word ng r = G := ⟨_, rfl⟩
        rw [hG] at m1
        have HGB := Lib.hid (mul_lt m1)
        have rm := fun W => run_mul F (tn k) G m1 W
        have hc := HT.out k (by omega)
        have k1 : (0 : Int) ≤ (k : Int) := by omega
        have k2 : (k : Int) < 23 := by omega
        have k4 : 0 < k := by omega
        have k5 : ¬ (22 : Int) < (k : Int) := by omega
        have M1 := Lib.hid m1
        clear m1 m2 m3 hG
        cases l1 : Flt.lt 4831355200913801216 F
        · cases l2 : Flt.lt F 14054727237768577024
          · cases ng
            all_goals
              have hst := HST.out
              simp only [Bool.false_eq_true, if_false, if_true] at hst
              go_enter Tryz.func158, Tryz.ntmps158
              go_wp2
              refine bodyPost_ret (v := .tuple #[.float .f64 G, .bool true]) (by simp [results, Tryz.results158, go_sem]; try rfl) rfl ?_
              exact ⟨⟨_, true, rfl, (by first | decide | exact HFB.out | exact HGB.out | exact HHB.out), fun _ b h1 h2 hr => by have q := H1.out b k (by omega) h1 h2 hr; rw [M1.out] at q; exact Option.some.inj q⟩, rfl⟩
          · cases ng
            all_goals
              have hst := HST.out
              simp only [Bool.false_eq_true, if_false, if_true] at hst
              go_enter Tryz.func158, Tryz.ntmps158
              go_wp2
              refine bodyPost_ret (v := .tuple #[.float .f64 F, .bool false]) (by simp [results, Tryz.results158, go_sem]; try rfl) rfl ?_
              exact ⟨⟨_, false, rfl, (by first | decide | exact HFB.out | exact HGB.out | exact HHB.out), fun h => absurd h (by decide)⟩, rfl⟩
        · cases ng
          all_goals
            have hst := HST.out
            simp only [Bool.false_eq_true, if_false, if_true] at hst
            go_enter Tryz.func158, Tryz.ntmps158
            go_wp2
            refine bodyPost_ret (v := .tuple #[.float .f64 F, .bool false]) (by simp [results, Tryz.results158, go_sem]; try rfl) rfl ?_
            exact ⟨⟨_, false, rfl, (by first | decide | exact HFB.out | exact HGB.out | exact HHB.out), fun h => absurd h (by decide)⟩, rfl⟩
    · by_cases pn : p < 0 ∧ -22 ≤ p
      · obtain ⟨k, rfl⟩ : ∃ k : Nat, p = -(k : Int) := ⟨(-p).toNat, by omega⟩
        obtain ⟨pn1, pn2⟩ := pn
        obtain ⟨G, m1⟩ := HD.out k (by omega)
        have HGB := Lib.hid (div_lt m1)
        have rm := fun W => run_quo F (tn k) G m1 W
        have hc := HT.out k (by omega)
        have k1 : (0 : Int) ≤ (k : Int) := by omega
        have k2 : (k : Int) < 23 := by omega
        have k3 : ¬ (0 : Int) < -(k : Int) := by omega
        have k4 : 0 < k := by omega
        have k5 : (k : Int) ≤ 22 := by omega
        have k6 : k ≤ 22 := by omega
        have k7 : ¬ (k : Int) < 0 := by omega
        have M1 := Lib.hid m1
        clear m1 pp
        cases ng
        all_goals
          have hst := HST.out
          simp only [Bool.false_eq_true, if_false, if_true] at hst
          go_enter Tryz.func158, Tryz.ntmps158
          go_wp2
          refine bodyPost_ret (v := .tuple #[.float .f64 G, .bool true]) (by simp [results, Tryz.results158, go_sem]; try rfl) rfl ?_
          exact ⟨⟨_, true, rfl, (by first | decide | exact HFB.out | exact HGB.out | exact HHB.out), fun _ b h1 h2 hr => by have q := H2.out b k (by omega) h1 h2 hr; rw [M1.out] at q; exact Option.some.inj q⟩, rfl⟩
      · have hc : (0 < p ∧ ¬ p ≤ 37) ∨ (¬ 0 < p ∧ p < 0 ∧ ¬ -22 ≤ p) := by omega
        clear pp pn
        rcases hc with ⟨c1, c2⟩ | ⟨c1, c2, c3⟩
        · have c3 : ¬ p < 0 := by omega
          cases ng
          all_goals
            have hst := HST.out
            simp only [Bool.false_eq_true, if_false, if_true] at hst
            go_enter Tryz.func158, Tryz.ntmps158
            go_wp2
            refine bodyPost_ret (v := .tuple #[.float .f64 F, .bool false]) (by simp [results, Tryz.results158, go_sem]; try rfl) rfl ?_
            exact ⟨⟨_, false, rfl, (by first | decide | exact HFB.out | exact HGB.out | exact HHB.out), fun h => absurd h (by decide)⟩, rfl⟩
        · cases ng
          all_goals
            have hst := HST.out
            simp only [Bool.false_eq_true, if_false, if_true] at hst
            go_enter Tryz.func158, Tryz.ntmps158
            go_wp2
            refine bodyPost_ret (v := .tuple #[.float .f64 F, .bool false]) (by simp [results, Tryz.results158, go_sem]; try rfl) rfl ?_
            exact ⟨⟨_, false, rfl, (by first | decide | exact HFB.out | exact HGB.out | exact HHB.out), fun h => absurd h (by decide)⟩, rfl⟩
  exact go ()
end Go.Proofs.YtnccpddjdgndcaaGreatDoor.Pf
end

section
/- ALL THE TABLES AND WORDS THAT value.Read READS, as a row lays them. -/
namespace Go.Proofs.YtnccpddjdgndcaaGreatDoor.Pf
open Go.RowKit Go.Lib
theorem trod_iface {H : Type} {enc : TypeId × Value → H} {P : Program} {w : World} {base : Nat} {spare : Nat → Bool} {held : Bool} {fuel : Nat} {t : TypeId} {cs : List Value} {x : DataW H × List MemPlace} {nm : String} {d : DataW H}
    (ht : (∃ m, P.underlying t = some (.interface m))) (h : DataW.trod enc P w base spare held fuel t cs = some x) (hx : x.1 = .iface nm d) : ∃ u v, cs = [.iface u v] := by
  obtain ⟨m, ht⟩ := ht
  cases fuel with
  | zero => simp [DataW.trod] at h
  | succ n =>
    unfold DataW.trod at h
    rw [ht] at h
    split at h <;> simp_all
    subst h
    cases hx
theorem err_of_reads {P : Program} {w : World} {name nm : String} {g : Nat} {t : TypeId} {d : DataW Unit} (hn : P.globalNamed name = some g) (hy : (P.globals[g]?).map (·.type) = some t) (ht : ∃ m, P.underlying t = some (.interface m))
    (h : VarReads P w name (.iface nm d)) : ∃ u v, w.cell? ⟨g, 0, none⟩ = some (.iface u v) := by
  obtain ⟨g', t', cs, fuel, p, hg, hty, hvar, hd⟩ := h
  obtain rfl := Option.some.inj (hn.symm.trans hg)
  obtain rfl := Option.some.inj (hy.symm.trans hty)
  obtain ⟨u, v, hb⟩ := trod_iface ht hd rfl
  refine ⟨u, v, ?_⟩
  rw [World.var?_cell hn hvar 0, ← Array.getElem?_toList, hb]; rfl
/-- what a row must list -/
structure PwLists (l : List (String × DataW Unit)) : Prop where
  plain : (l.all fun x => x.2.handleName?.isNone) = true
  f1 : l.find? (fun x => x.1 == "internal/strconv.optimize") = some ("internal/strconv.optimize", .lit (.bool true))
  f2 : ∃ ds, l.find? (fun x => x.1 == "internal/strconv.float64info") = some ("internal/strconv.float64info", .agg (.lit (.int .u64 52) :: ds))
  f3 : ∃ ds, l.find? (fun x => x.1 == "internal/strconv.float64pow10") = some ("internal/strconv.float64pow10", .slice ds []) ∧ ds = tens.map (fun z => .lit (.float .f64 z))
  f4 : ∃ nm d, l.find? (fun x => x.1 == "strconv.ErrSyntax") = some ("strconv.ErrSyntax", .iface nm d)
theorem tens_at (k : Nat) (hk : k < 23) : tens[k]? = some (tn k) := by
  unfold tn
  rw [List.getD_eq_getElem?_getD]
  cases h : tens[k]? with
  | none => exact absurd (List.getElem?_eq_none_iff.1 h) (by have : tens.length = 23 := by decide
                                                             omega)
  | some v => rfl
theorem pw_of {l : List (String × DataW Unit)} {W : World} (L : PwLists l) (h : laidMetH Tryz.prog l W) : PfW W ∧ Unq.ErrS W := by
  rw [MakeChecks.laidMetH_plain _ _ _ L.plain] at h
  obtain ⟨ds, f2⟩ := L.f2
  obtain ⟨ds3, f3, f4⟩ := L.f3
  obtain ⟨nm, d, f5⟩ := L.f4
  have hlen : ds3.length = 23 := by rw [f4, List.length_map]; decide
  have hat : ∀ k, k < 23 → ds3[k]? = some (.lit (.float .f64 (tn k))) := fun k hk => by rw [f4, List.getElem?_map, tens_at k hk]; rfl
  have hall := fun k hk => floats_of_reads (g := 13) (by kernel_rfl) (by kernel_rfl) Tryz.underlying217 Tryz.underlying23 (by kernel_rfl) (hat k hk) (Tab.reads_of h f3)
  obtain ⟨R, o, c, h1, h2⟩ := hall 0 (by decide)
  rw [hlen] at h1
  refine ⟨⟨bool_of_reads (g := 7) (by kernel_rfl) (by kernel_rfl) Tryz.underlying4 (Tab.reads_of h L.f1),
    field0_of_reads (g := 10) (by kernel_rfl) (by kernel_rfl) Tryz.underlying178 rfl rfl (by kernel_rfl) (by kernel_rfl) (Tab.reads_of h f2), R, o, c, h1, fun k hk => ?_⟩, ?_⟩
  · obtain ⟨R2, o2, c2, g1, g2⟩ := hall k hk
    rw [h1] at g1
    simp only [Option.some.injEq, Value.slice.injEq, Addr.mk.injEq] at g1
    obtain ⟨⟨e1, e2, _⟩, _, _⟩ := g1
    rw [← e1, ← e2] at g2
    exact g2
  · exact err_of_reads (g := 1) (by kernel_rfl) (by kernel_rfl) ⟨_, Tryz.underlying52⟩ (Tab.reads_of h f5)
end Go.Proofs.YtnccpddjdgndcaaGreatDoor.Pf
end

section
/- THE DIGITS OF A DECIMAL TEXT TAKE NO MORE THAN NINETEEN PLACES. No walk. -/
namespace Go.Proofs.YtnccpddjdgndcaaGreatDoor.Pf
open Go.RowKit
def RM (r : RS) : Prop := ∃ k : Nat, r.ndm = (k : Int) ∧ k ≤ 19 ∧ 0 ≤ r.m ∧ r.m < ((10 ^ k : Nat) : Int)
theorem p19 {k : Nat} (h : k ≤ 19) : 10 ^ k ≤ 10000000000000000000 := by
  have := Nat.pow_le_pow_right (n := 10) (by decide) h
  rw [show (10 : Nat) ^ 19 = 10000000000000000000 by decide] at this
  exact this
theorem rm_dig (r : RS) (v : Int) (nz : Bool) (h : RM r) (h0 : 0 ≤ v) (h1 : v ≤ 9) : RM (rfDig false v nz r) := by
  obtain ⟨k, a, b, c, d⟩ := h
  unfold rfDig
  by_cases g : r.ndm < mostZ false
  · rw [if_pos g]
    have g2 : r.ndm < 19 := g
    have hk : k + 1 ≤ 19 := by omega
    have hp := p19 hk
    rw [Nat.pow_succ] at hp
    obtain ⟨P, hP⟩ : ∃ P : Nat, 10 ^ k = P := ⟨_, rfl⟩
    rw [hP] at d hp
    have e1 : IntKind.u64.wrap (r.m * baseZ false) = r.m * 10 := by
      rw [show baseZ false = 10 from rfl, IntKind.wrap_u64]; omega
    have e2 : IntKind.u64.wrap (r.m * 10 + v) = r.m * 10 + v := by rw [IntKind.wrap_u64]; omega
    refine ⟨k + 1, ?_, hk, ?_, ?_⟩
    · show r.ndm + 1 = _; omega
    · show 0 ≤ IntKind.u64.wrap (IntKind.u64.wrap (r.m * baseZ false) + v); rw [e1, e2]; omega
    · show IntKind.u64.wrap (IntKind.u64.wrap (r.m * baseZ false) + v) < _
      rw [e1, e2, Nat.pow_succ, hP]; omega
  · rw [if_neg g]
    exact ⟨k, a, b, c, d⟩
theorem rm_step (c : UInt8) (r r2 : RS) (h : RM r) (hs : rfStep false (c.toNat : Int) r = some r2) : RM r2 := by
  unfold rfStep at hs
  split at hs
  · cases hs; exact h
  · split at hs
    · split at hs
      · exact absurd hs (by simp)
      · cases hs; exact h
    · split at hs
      · rename_i g
        split at hs
        · cases hs; exact h
        · cases hs; exact rm_dig r _ _ h (by omega) (by omega)
      · rw [if_neg (by simp)] at hs
        exact absurd hs (by simp)
theorem rm_go : ∀ (l : List UInt8) (r : RS), RM r → RM (rfGo false l r).1
  | [], r, h => by rw [rfGo]; exact h
  | c :: l, r, h => by
    rw [rfGo]
    cases g : rfStep false (c.toNat : Int) r with
    | none => exact h
    | some r2 => exact rm_go l r2 (rm_step c r r2 h g)
theorem rm0 : RM rs0 := ⟨0, rfl, by decide, Int.le_refl _, by decide⟩
theorem rm_end (l : List UInt8) (o : RO) (h : rfEnd false (rfGo false l rs0) = some o) : 0 ≤ o.m ∧ o.m < 10000000000000000000 := by
  obtain ⟨k, _, b, c, d⟩ := rm_go l rs0 rm0
  have hp := p19 b
  unfold rfEnd at h
  split at h
  · exact absurd h (by simp)
  · simp only at h
    split at h
    · split at h
      · exact absurd h (by simp)
      · cases h; exact ⟨c, by simp only; omega⟩
    · rw [if_neg (by simp)] at h
      cases h; exact ⟨c, by simp only; omega⟩
theorem u64_bd (a b : Int) : 0 ≤ bits .or .u64 a b ∧ bits .or .u64 a b < 18446744073709551616 := wrap_u64_bd _
theorem nat_bd (z : Int) (h : 0 ≤ z ∧ z < 18446744073709551616) : z.toNat < 18446744073709551616 := by omega
theorem packB_bd (m e : Int) (h0 : 0 ≤ m) (h1 : m < 18446744073709551616) : (packB m e).1.toNat < 18446744073709551616 := by
  unfold packB
  split
  · omega
  · split
    · exact nat_bd _ (u64_bd _ _)
    · exact nat_bd _ (u64_bd _ _)
theorem pfV_bd (d : Nat) (p sg : Int) (h0 : 0 ≤ sg) (h1 : sg < 18446744073709551616) : (pfV d p sg).1.toNat < 18446744073709551616 := by
  unfold pfV
  split
  · show sg.toNat < _; omega
  · split
    · exact packB_bd _ _ (u64_bd _ _).1 (u64_bd _ _).2
    · exact packB_bd _ _ (u64_bd _ _).1 (u64_bd _ _).2
/-- what readFloat answers at any text -/
def RfA (s : ByteArray) (e : Ending) : Prop :=
  ∃ (d : Nat) (x : Int) (ng tr hex : Bool) (n : Nat) (ok : Bool), e = .returned (.tuple #[.int .u64 (d : Int), .int .i64 x, .bool ng, .bool tr, .bool hex, .int .i64 (n : Int), .bool ok]) ∧ n ≤ s.size ∧ d < 18446744073709551616 ∧ -9000000 ≤ x ∧ x ≤ 9000000 ∧
    (ok = true → hex = false → d + 1 < 18446744073709551616)
theorem rfA_of (s : ByteArray) (ng hex : Bool) (l : List UInt8) (e : Ending) (h : RfP s ng hex (rfEnd hex (rfGo hex l rs0)) e) : RfA s e := by
  obtain ⟨m, x, tr, n, ok, rfl, n0, n1, m0, m1, x0, x1, hno, hyes⟩ := h
  refine ⟨m.toNat, x, ng, tr, hex, n.toNat, ok, by rw [Int.toNat_of_nonneg m0, Int.toNat_of_nonneg n0], by omega, by omega, x0, x1, ?_⟩
  rintro rfl rfl
  cases g : rfEnd false (rfGo false l rs0) with
  | none => exact absurd (hno g) (by simp)
  | some o =>
    obtain ⟨_, q2, _⟩ := hyes o g
    have := rm_end l o g
    omega
end Go.Proofs.YtnccpddjdgndcaaGreatDoor.Pf
end

section
/- PLAIN: decimals of many digits and their shifts, as the slow road of reading a float makes them. No program in sight. -/
namespace Go.Proofs.YtnccpddjdgndcaaGreatDoor.Dc
/-- digits as a number -/
def val (l : List Nat) : Nat := l.foldl (fun a d => a * 10 + d) 0
theorem val_from (l : List Nat) : ∀ a, l.foldl (fun a d => a * 10 + d) a = a * 10 ^ l.length + val l := by
  unfold val
  induction l with
  | nil => intro a; simp
  | cons d l ih =>
    intro a
    rw [List.foldl_cons, List.foldl_cons, ih, ih (0 * 10 + d), List.length_cons, Nat.pow_succ, Nat.add_mul, Nat.add_mul, Nat.mul_assoc, Nat.mul_comm 10]
    omega
theorem val_append (a b : List Nat) : val (a ++ b) = val a * 10 ^ b.length + val b := by
  conv => lhs; unfold val
  rw [List.foldl_append]
  exact val_from b _
theorem val_cons (d : Nat) (l : List Nat) : val (d :: l) = d * 10 ^ l.length + val l := by
  rw [show d :: l = [d] ++ l from rfl, val_append]
  simp [val]
theorem val_zeros (m : Nat) : val (List.replicate m 0) = 0 := by
  induction m with
  | zero => rfl
  | succ m ih => rw [List.replicate_succ, val_cons, ih]; simp
def Dg (l : List Nat) : Prop := ∀ d ∈ l, d ≤ 9
theorem val_lt : ∀ (l : List Nat), Dg l → val l < 10 ^ l.length
  | [], _ => by simp [val]
  | d :: l, h => by
    have h1 := h d List.mem_cons_self
    have h2 := val_lt l fun x hx => h x (List.mem_cons_of_mem _ hx)
    rw [val_cons, List.length_cons, Nat.pow_succ]
    have : d * 10 ^ l.length ≤ 9 * 10 ^ l.length := Nat.mul_le_mul_right _ h1
    omega
/-- a first digit that is none of 0 -/
def Hd (l : List Nat) : Prop := ∃ d r, l = d :: r ∧ d ≠ 0
theorem val_ge {l : List Nat} (h : Hd l) : 10 ^ (l.length - 1) ≤ val l := by
  obtain ⟨d, r, rfl, h0⟩ := h
  rw [val_cons, List.length_cons, Nat.add_sub_cancel]
  have : 1 * 10 ^ r.length ≤ d * 10 ^ r.length := Nat.mul_le_mul_right _ (Nat.pos_of_ne_zero h0)
  omega
/-- zeros at the end struck -/
def trimZ (l : List Nat) : List Nat := (l.reverse.dropWhile (· == 0)).reverse
theorem trimZ_split (l : List Nat) : ∃ m, l = trimZ l ++ List.replicate m 0 := by
  unfold trimZ
  refine ⟨(l.reverse.takeWhile (· == 0)).length, ?_⟩
  have h : l.reverse.takeWhile (· == 0) = List.replicate (l.reverse.takeWhile (· == 0)).length 0 := by
    rw [List.eq_replicate_iff]
    refine ⟨rfl, fun x hx => ?_⟩
    have : ∀ (k : List Nat), ∀ y ∈ k.takeWhile (· == 0), y = 0 := by
      intro k
      induction k with
      | nil => intro y hy; simp at hy
      | cons z k ih =>
        intro y hy
        rw [List.takeWhile_cons] at hy
        split at hy
        · rename_i hz
          rcases List.mem_cons.1 hy with rfl | hy
          · simpa using hz
          · exact ih y hy
        · simp at hy
    exact this _ x hx
  have e := (List.takeWhile_append_dropWhile (p := (· == 0)) (l := l.reverse)).symm
  have e2 := congrArg List.reverse e
  rw [List.reverse_reverse, List.reverse_append] at e2
  rw [h, List.reverse_replicate] at e2
  exact e2
theorem trimZ_dg {l : List Nat} (h : Dg l) : Dg (trimZ l) := fun d hd => by
  obtain ⟨m, e⟩ := trimZ_split l
  exact h d (by rw [e]; exact List.mem_append_left _ hd)
theorem trimZ_hd {l : List Nat} (h : Hd l) : Hd (trimZ l) := by
  obtain ⟨m, e⟩ := trimZ_split l
  obtain ⟨d, r, e2, h0⟩ := h
  cases ht : trimZ l with
  | nil =>
    exfalso
    rw [ht, List.nil_append, e2] at e
    cases m with
    | zero => simp at e
    | succ m =>
      rw [List.replicate_succ] at e
      exact h0 (List.cons.inj e).1
  | cons a s =>
    rw [ht, e2, List.cons_append] at e
    exact ⟨a, s, rfl, by rw [← (List.cons.inj e).1]; exact h0⟩
theorem trimZ_len (l : List Nat) : (trimZ l).length ≤ l.length := by
  obtain ⟨m, e⟩ := trimZ_split l
  have := congrArg List.length e
  rw [List.length_append] at this
  omega
/-- what is above the point, rounded down -/
def fl (l : List Nat) (dp : Int) : Nat := val l * 10 ^ dp.toNat / 10 ^ l.length
theorem fl_trim (l : List Nat) (dp : Int) : fl (trimZ l) dp = fl l dp := by
  obtain ⟨m, e⟩ := trimZ_split l
  unfold fl
  conv => rhs; rw [e]
  rw [val_append, val_zeros, List.length_append, List.length_replicate, Nat.add_zero, Nat.pow_add, Nat.mul_right_comm]
  exact (Nat.mul_div_mul_right _ _ (Nat.pow_pos (by decide))).symm
theorem fl_take (l : List Nat) (m : Nat) (dp : Int) : fl (l.take m) dp ≤ fl l dp := by
  unfold fl
  have e := (List.take_append_drop m l).symm
  conv => rhs; rw [e]
  rw [val_append, List.length_append, Nat.pow_add]
  refine (Nat.le_div_iff_mul_le (Nat.mul_pos (Nat.pow_pos (by decide)) (Nat.pow_pos (by decide)))).2 ?_
  have h := Nat.div_mul_le_self (val (l.take m) * 10 ^ dp.toNat) (10 ^ (l.take m).length)
  calc val (l.take m) * 10 ^ dp.toNat / 10 ^ (l.take m).length * (10 ^ (l.take m).length * 10 ^ (l.drop m).length)
      = val (l.take m) * 10 ^ dp.toNat / 10 ^ (l.take m).length * 10 ^ (l.take m).length * 10 ^ (l.drop m).length := by rw [Nat.mul_assoc]
    _ ≤ val (l.take m) * 10 ^ dp.toNat * 10 ^ (l.drop m).length := Nat.mul_le_mul_right _ h
    _ = val (l.take m) * 10 ^ (l.drop m).length * 10 ^ dp.toNat := Nat.mul_right_comm _ _ _
    _ ≤ _ := Nat.mul_le_mul_right _ (Nat.le_add_right _ _)
/-- A SHIFT TO THE RIGHT: enough digits are picked up -/
def mul10 (k : Nat) : Nat → Nat → Nat → Nat × Nat
  | 0, n, r => (n, r)
  | f + 1, n, r => if n / 2 ^ k = 0 then mul10 k f (n * 10) (r + 1) else (n, r)
def pick (k : Nat) : Nat → Nat → List Nat → Nat × Nat × List Nat
  | n, r, [] => ((mul10 k k n r).1, (mul10 k k n r).2, [])
  | n, r, d :: ds => if n / 2 ^ k = 0 then pick k (n * 10 + d) (r + 1) ds else (n, r, d :: ds)
/-- then a digit is put down for each that is picked up -/
def divTail (k : Nat) : Nat → Nat → List Nat
  | 0, _ => []
  | f + 1, n => if n = 0 then [] else n / 2 ^ k :: divTail k f (n % 2 ^ k * 10)
def divGo (k : Nat) : Nat → List Nat → List Nat
  | n, [] => divTail k (k + 2) n
  | n, d :: ds => n / 2 ^ k :: divGo k (n % 2 ^ k * 10 + d) ds
theorem mul10_spec (k : Nat) : ∀ (f n r : Nat), 0 < n → 2 ^ k ≤ n * 2 ^ f → n < 2 ^ k * 10 → ∃ j, mul10 k f n r = (n * 10 ^ j, r + j) ∧ 2 ^ k ≤ n * 10 ^ j ∧ n * 10 ^ j < 2 ^ k * 10
  | 0, n, r, _, h, h2 => ⟨0, by simp [mul10], by simpa using h, by simpa using h2⟩
  | f + 1, n, r, h0, h, h2 => by
    unfold mul10
    by_cases hz : n / 2 ^ k = 0
    · rw [if_pos hz]
      have hlt : n < 2 ^ k := by
        rcases Nat.lt_or_ge n (2 ^ k) with g | g
        · exact g
        · have := Nat.div_pos g (Nat.pow_pos (by decide)); omega
      obtain ⟨j, e1, e2, e3⟩ := mul10_spec k f (n * 10) (r + 1) (by omega) (by
        have : n * 2 ^ (f + 1) ≤ n * 10 * 2 ^ f := by
          rw [Nat.pow_succ, Nat.mul_assoc]
          rw [Nat.mul_comm (2 ^ f) 2]
          exact Nat.mul_le_mul_left _ (Nat.mul_le_mul_right _ (by decide))
        omega) (by omega)
      refine ⟨j + 1, ?_, ?_, ?_⟩
      · rw [e1, Nat.pow_succ, Nat.mul_comm (10 ^ j) 10, Nat.mul_assoc, Nat.add_assoc, Nat.add_comm 1 j]
      · rw [Nat.pow_succ, Nat.mul_comm (10 ^ j) 10, ← Nat.mul_assoc]; exact e2
      · rw [Nat.pow_succ, Nat.mul_comm (10 ^ j) 10, ← Nat.mul_assoc]; exact e3
    · rw [if_neg hz]
      refine ⟨0, by simp, ?_, by simpa using h2⟩
      rcases Nat.lt_or_ge n (2 ^ k) with g | g
      · exact absurd (Nat.div_eq_of_lt g) hz
      · simpa using g
/-- what is picked up: enough, not too much; nothing is lost -/
theorem pick_spec (k : Nat) (D L : Nat) : ∀ (ds : List Nat) (n r : Nat), Dg ds → n < 2 ^ k * 10 → 0 < n + val ds → r + ds.length = L → n * 10 ^ ds.length + val ds = D →
    ∃ n2 r2 ds2, pick k n r ds = (n2, r2, ds2) ∧ 2 ^ k ≤ n2 ∧ n2 < 2 ^ k * 10 ∧ Dg ds2 ∧ L ≤ r2 + ds2.length ∧ n2 * 10 ^ ds2.length + val ds2 = D * 10 ^ (r2 + ds2.length - L) ∧ r ≤ r2
  | [], n, r, _, h2, h0, hL, hD => by
    have hv : val ([] : List Nat) = 0 := rfl
    rw [hv] at h0 hD
    simp only [List.length_nil, Nat.pow_zero, Nat.mul_one, Nat.add_zero] at hL hD h0
    obtain ⟨j, e1, e2, e3⟩ := mul10_spec k k n r h0 (Nat.le_mul_of_pos_left _ h0) h2
    refine ⟨n * 10 ^ j, r + j, [], by unfold pick; rw [e1], e2, e3, (fun d hd => by cases hd), by simp; omega, ?_, by omega⟩
    simp only [hv, List.length_nil, Nat.pow_zero, Nat.mul_one, Nat.add_zero]
    rw [hD, hL, Nat.add_sub_cancel_left]
  | d :: ds, n, r, hd, h2, h0, hL, hD => by
    unfold pick
    have hd1 := hd d List.mem_cons_self
    rw [List.length_cons] at hL
    rw [val_cons, List.length_cons] at hD
    rw [val_cons] at h0
    by_cases hz : n / 2 ^ k = 0
    · rw [if_pos hz]
      have hlt : n < 2 ^ k := by
        rcases Nat.lt_or_ge n (2 ^ k) with g | g
        · exact g
        · have := Nat.div_pos g (Nat.pow_pos (by decide)); omega
      obtain ⟨n2, r2, ds2, e1, e2, e3, e4, e5, e6, e7⟩ := pick_spec k D L ds (n * 10 + d) (r + 1) (fun x hx => hd x (List.mem_cons_of_mem _ hx)) (by omega) (by
        rcases Nat.eq_zero_or_pos (n + val ds) with g | g
        · have hn : n = 0 := by omega
          have hv : val ds = 0 := by omega
          rw [hn, hv] at h0
          have : d ≠ 0 := by rintro rfl; simp at h0
          omega
        · omega) (by omega) (by
        rw [← hD, Nat.add_mul, Nat.pow_succ, Nat.mul_assoc, Nat.mul_comm 10]; omega)
      exact ⟨n2, r2, ds2, e1, e2, e3, e4, e5, e6, by omega⟩
    · rw [if_neg hz]
      refine ⟨n, r, d :: ds, rfl, ?_, h2, hd, by simp; omega, ?_, Nat.le_refl _⟩
      · rcases Nat.lt_or_ge n (2 ^ k) with g | g
        · exact absurd (Nat.div_eq_of_lt g) hz
        · exact g
      · rw [val_cons, List.length_cons, hD, hL, Nat.sub_self, Nat.pow_zero, Nat.mul_one]
theorem lt_of_div {n q p : Nat} (h : n < p * q) : n / p < q := Nat.div_lt_of_lt_mul h
theorem divTail_spec (k : Nat) : ∀ (f n i : Nat), n < 2 ^ k * 10 → (i ≤ k → 2 ^ i ∣ n) → (k < i → n = 0) → i + f = k + 2 → Dg (divTail k f n) ∧ val (divTail k f n) * 2 ^ k * 10 = n * 10 ^ (divTail k f n).length
  | 0, n, i, h, _, hz, hi => by
    have : n = 0 := hz (by omega)
    subst this
    exact ⟨fun d hd => by simp [divTail] at hd, by simp [divTail, val]⟩
  | f + 1, n, i, h, hd, hz, hi => by
    unfold divTail
    by_cases h0 : n = 0
    · rw [if_pos h0, h0]
      exact ⟨(fun d hd => by cases hd), by simp [val]⟩
    rw [if_neg h0]
    have hik : i ≤ k := by
      rcases Nat.lt_or_ge k i with g | g
      · exact absurd (hz g) h0
      · exact g
    have hp : 0 < 2 ^ k := Nat.pow_pos (by decide)
    have hq : n / 2 ^ k < 10 := lt_of_div h
    have hr : n % 2 ^ k < 2 ^ k := Nat.mod_lt _ hp
    have hdm := Nat.div_add_mod n (2 ^ k)
    have hdv : 2 ^ i ∣ n % 2 ^ k := (Nat.dvd_mod_iff (Nat.pow_dvd_pow 2 hik)).2 (hd hik)
    obtain ⟨e1, e2⟩ := divTail_spec k f (n % 2 ^ k * 10) (i + 1) (by omega) (fun _ => by
      obtain ⟨m, hm⟩ := hdv
      rw [hm]
      exact ⟨m * 5, by rw [Nat.pow_succ, Nat.mul_assoc, Nat.mul_assoc]; congr 1; omega⟩) (fun g => by
      have : i = k := by omega
      subst this
      rw [Nat.mod_eq_zero_of_dvd (hd hik)]) (by omega)
    generalize divTail k f (n % 2 ^ k * 10) = o at *
    generalize n / 2 ^ k = q at *
    generalize n % 2 ^ k = R at *
    refine ⟨fun d hd => ?_, ?_⟩
    · rcases List.mem_cons.1 hd with rfl | hd
      · omega
      · exact e1 d hd
    · rw [val_cons, List.length_cons, Nat.pow_succ, Nat.add_mul, Nat.add_mul, e2, ← hdm, Nat.add_mul]
      congr 1
      · simp only [Nat.mul_comm, Nat.mul_left_comm, Nat.mul_assoc]
      · simp only [Nat.mul_comm, Nat.mul_assoc]
theorem divGo_spec (k : Nat) : ∀ (ds : List Nat) (n : Nat), Dg ds → n < 2 ^ k * 10 → Dg (divGo k n ds) ∧ ds.length ≤ (divGo k n ds).length ∧ val (divGo k n ds) * 2 ^ k * 10 = (n * 10 ^ ds.length + val ds) * 10 ^ ((divGo k n ds).length - ds.length)
  | [], n, _, h => by
    obtain ⟨e1, e2⟩ := divTail_spec k (k + 2) n 0 h (fun _ => by simp) (fun g => by omega) (by omega)
    unfold divGo
    exact ⟨e1, Nat.zero_le _, by rw [e2]; simp [val]⟩
  | d :: ds, n, hg, h => by
    unfold divGo
    have hp : 0 < 2 ^ k := Nat.pow_pos (by decide)
    have hq : n / 2 ^ k < 10 := lt_of_div h
    have hr : n % 2 ^ k < 2 ^ k := Nat.mod_lt _ hp
    have hdm := Nat.div_add_mod n (2 ^ k)
    have hd9 := hg d List.mem_cons_self
    obtain ⟨e1, e2, e3⟩ := divGo_spec k ds (n % 2 ^ k * 10 + d) (fun x hx => hg x (List.mem_cons_of_mem _ hx)) (by omega)
    generalize divGo k (n % 2 ^ k * 10 + d) ds = o at *
    generalize n / 2 ^ k = q at *
    generalize n % 2 ^ k = R at *
    refine ⟨fun x hx => ?_, by simp; omega, ?_⟩
    · rcases List.mem_cons.1 hx with rfl | hx
      · omega
      · exact e1 x hx
    · obtain ⟨j, hj⟩ : ∃ j, o.length = ds.length + j := ⟨o.length - ds.length, by omega⟩
      rw [hj, Nat.add_sub_cancel_left] at e3
      rw [val_cons, val_cons, List.length_cons, List.length_cons, hj, show ds.length + j + 1 - (ds.length + 1) = j by omega, Nat.add_mul, Nat.add_mul, e3, ← hdm, Nat.pow_succ, Nat.pow_add]
      simp only [Nat.add_mul, Nat.mul_add, Nat.mul_comm, Nat.mul_left_comm, Nat.mul_assoc]
      omega
theorem divGo_hd (k n : Nat) (ds : List Nat) (h : 2 ^ k ≤ n) : Hd (divGo k n ds) := by
  have hp : 0 < 2 ^ k := Nat.pow_pos (by decide)
  have hq : n / 2 ^ k ≠ 0 := Nat.ne_of_gt (Nat.div_pos h hp)
  cases ds with
  | nil =>
    refine ⟨n / 2 ^ k, divTail k (k + 1) (n % 2 ^ k * 10), ?_, hq⟩
    unfold divGo
    rw [show k + 2 = (k + 1) + 1 from rfl, divTail, if_neg (by omega)]
  | cons d ds => exact ⟨_, _, rfl, hq⟩
/-- a decimal: its digits, its point, whether digits were left out -/
structure DS where
  ds : List Nat
  dp : Int
  tr : Bool
def lost (l : List Nat) : Bool := (l.drop 800).any (· != 0)
def right (k : Nat) (s : DS) : DS :=
  let p := pick k 0 0 s.ds
  let o := divGo k p.1 p.2.2
  ⟨trimZ (o.take 800), s.dp - ((p.2.1 : Int) - 1), s.tr || lost o⟩
/-- a decimal that is one -/
structure Ok (s : DS) : Prop where
  dg : Dg s.ds
  hd : Hd s.ds
  len : s.ds.length ≤ 800
theorem Ok.take {l : List Nat} (h : Dg l) (hd : Hd l) (dp : Int) (t : Bool) : Ok ⟨trimZ (l.take 800), dp, t⟩ := by
  have h1 : Hd (l.take 800) := by
    obtain ⟨d, r, rfl, h0⟩ := hd
    exact ⟨d, r.take 799, rfl, h0⟩
  refine ⟨trimZ_dg fun d hd => h d (List.mem_of_mem_take hd), trimZ_hd h1, ?_⟩
  have := trimZ_len (l.take 800)
  rw [List.length_take] at this
  show (trimZ (l.take 800)).length ≤ 800
  omega
theorem right_spec (k : Nat) (s : DS) (h : Ok s) : ∃ n r rest, pick k 0 0 s.ds = (n, r, rest) ∧ 2 ^ k ≤ n ∧ n < 2 ^ k * 10 ∧ Dg rest ∧ Dg (divGo k n rest) ∧ Hd (divGo k n rest) ∧ 1 ≤ (divGo k n rest).length ∧
    val (divGo k n rest) * 2 ^ k * 10 ^ s.ds.length * 10 = val s.ds * 10 ^ (r + (divGo k n rest).length) := by
  have hv := val_ge h.hd
  have hp10 : 0 < 10 ^ (s.ds.length - 1) := Nat.pow_pos (by decide)
  obtain ⟨n, r, rest, e1, e2, e3, e4, e5, e6, e7⟩ := pick_spec k (val s.ds) s.ds.length s.ds 0 0 h.dg (Nat.mul_pos (Nat.pow_pos (by decide)) (by decide)) (by omega) (by omega) (by simp)
  obtain ⟨f1, f2, f3⟩ := divGo_spec k rest n e4 e3
  have hh := divGo_hd k n rest e2
  have hl : 1 ≤ (divGo k n rest).length := by
    obtain ⟨d, t, ee, _⟩ := hh
    rw [ee]; simp
  refine ⟨n, r, rest, e1, e2, e3, e4, f1, hh, hl, ?_⟩
  rw [e6] at f3
  calc val (divGo k n rest) * 2 ^ k * 10 ^ s.ds.length * 10
      = val (divGo k n rest) * 2 ^ k * 10 * 10 ^ s.ds.length := Nat.mul_right_comm _ _ _
    _ = val s.ds * (10 ^ (r + rest.length - s.ds.length) * 10 ^ ((divGo k n rest).length - rest.length) * 10 ^ s.ds.length) := by rw [f3]; simp only [Nat.mul_assoc]
    _ = val s.ds * 10 ^ (r + (divGo k n rest).length) := by rw [← Nat.pow_add, ← Nat.pow_add]; congr 2; omega
theorem right_ok (k : Nat) (s : DS) (h : Ok s) : Ok (right k s) := by
  obtain ⟨n, r, rest, e1, _, _, _, f1, f2, _⟩ := right_spec k s h
  unfold right
  rw [e1]
  exact Ok.take f1 f2 _ _
theorem fl_pos {s : DS} (h : Ok s) (hp : 0 < s.dp) : 1 ≤ fl s.ds s.dp := by
  have hv := val_ge h.hd
  obtain ⟨m, hm⟩ : ∃ m : Nat, s.dp.toNat = m + 1 := ⟨s.dp.toNat - 1, by omega⟩
  obtain ⟨d, t, ee, _⟩ := h.hd
  have hl : s.ds.length = (s.ds.length - 1) + 1 := by rw [ee]; simp
  unfold fl
  rw [Nat.le_div_iff_mul_le (Nat.pow_pos (by decide)), hm]
  have he : 10 ^ s.ds.length = 10 ^ (s.ds.length - 1) * 10 := by
    conv => lhs; rw [hl, Nat.pow_succ]
  calc 1 * 10 ^ s.ds.length = 10 ^ (s.ds.length - 1) * 10 := by rw [Nat.one_mul, he]
    _ ≤ val s.ds * 10 := Nat.mul_le_mul_right _ hv
    _ ≤ val s.ds * 10 ^ (m + 1) := Nat.mul_le_mul_left _ (by rw [Nat.pow_succ]; have := Nat.pow_pos (n := m) (show 0 < 10 by decide); omega)
/-- A SHIFT TO THE LEFT: from the last digit on -/
def mulTail : Nat → Nat → List Nat
  | 0, _ => []
  | f + 1, n => if n = 0 then [] else n % 10 :: mulTail f (n / 10)
def mulGo (k : Nat) : Nat → List Nat → List Nat
  | n, [] => mulTail 20 n
  | n, d :: ds => (n + d * 2 ^ k) % 10 :: mulGo k ((n + d * 2 ^ k) / 10) ds
/-- digits from the last one on, as a number -/
def lv : List Nat → Nat
  | [] => 0
  | d :: l => d + 10 * lv l
theorem lv_val : ∀ l : List Nat, lv l = val l.reverse
  | [] => rfl
  | d :: l => by
    rw [lv, lv_val l, List.reverse_cons, val_append]
    simp [val]
    omega
theorem mulTail_spec : ∀ (f n : Nat), n < 10 ^ f → Dg (mulTail f n) ∧ lv (mulTail f n) = n ∧ (n = 0 → mulTail f n = []) ∧ (n ≠ 0 → 1 ≤ (mulTail f n).length ∧ 10 ^ ((mulTail f n).length - 1) ≤ n)
  | 0, n, h => by
    have : n = 0 := by simp at h; omega
    subst this
    exact ⟨fun d hd => by simp [mulTail] at hd, rfl, fun _ => rfl, fun g => absurd rfl g⟩
  | f + 1, n, h => by
    unfold mulTail
    by_cases h0 : n = 0
    · rw [if_pos h0]
      exact ⟨(fun d hd => by cases hd), by rw [h0]; rfl, fun _ => rfl, fun g => absurd h0 g⟩
    rw [if_neg h0]
    obtain ⟨e1, e2, e3, e4⟩ := mulTail_spec f (n / 10) (by rw [Nat.pow_succ] at h; omega)
    refine ⟨fun d hd => ?_, ?_, fun g => absurd g h0, fun _ => ⟨by simp, ?_⟩⟩
    · rcases List.mem_cons.1 hd with rfl | hd
      · omega
      · exact e1 d hd
    · rw [lv, e2]; omega
    · rw [List.length_cons, Nat.add_sub_cancel]
      by_cases g : n / 10 = 0
      · rw [e3 g]; simp; omega
      · obtain ⟨a, b⟩ := e4 g
        obtain ⟨m, hm⟩ : ∃ m, (mulTail f (n / 10)).length = m + 1 := ⟨(mulTail f (n / 10)).length - 1, by omega⟩
        rw [hm] at b ⊢
        rw [Nat.add_sub_cancel] at b
        rw [Nat.pow_succ]
        omega
theorem mulGo_spec (k : Nat) (hk : k ≤ 60) : ∀ (ds : List Nat) (n : Nat), Dg ds → n ≤ 2 ^ k → Dg (mulGo k n ds) ∧ lv (mulGo k n ds) = n + lv ds * 2 ^ k ∧ ds.length ≤ (mulGo k n ds).length ∧ (ds.length < (mulGo k n ds).length → 10 ^ ((mulGo k n ds).length - 1) ≤ n + lv ds * 2 ^ k)
  | [], n, _, h => by
    have h20 : n < 10 ^ 20 := by
      have : 2 ^ k ≤ 2 ^ 60 := Nat.pow_le_pow_right (by decide) hk
      have : (2 : Nat) ^ 60 < 10 ^ 20 := by decide
      omega
    obtain ⟨e1, e2, e3, e4⟩ := mulTail_spec 20 n h20
    unfold mulGo
    refine ⟨e1, by rw [e2]; simp [lv], Nat.zero_le _, fun hl => ?_⟩
    have h0 : n ≠ 0 := fun g => by rw [e3 g] at hl; simp at hl
    rw [lv]
    simpa using (e4 h0).2
  | d :: ds, n, hg, h => by
    unfold mulGo
    have hd9 := hg d List.mem_cons_self
    have h9 : d * 2 ^ k ≤ 9 * 2 ^ k := Nat.mul_le_mul_right _ hd9
    obtain ⟨e1, e2, e3, e4⟩ := mulGo_spec k hk ds ((n + d * 2 ^ k) / 10) (fun x hx => hg x (List.mem_cons_of_mem _ hx)) (by omega)
    generalize mulGo k ((n + d * 2 ^ k) / 10) ds = o at *
    refine ⟨fun x hx => ?_, ?_, by simp; omega, fun hl => ?_⟩
    · rcases List.mem_cons.1 hx with rfl | hx
      · omega
      · exact e1 x hx
    · rw [lv, e2, lv, Nat.add_mul, Nat.mul_add, ← Nat.mul_assoc]
      omega
    · simp only [List.length_cons] at hl ⊢
      have := e4 (by omega)
      rw [Nat.add_sub_cancel]
      obtain ⟨m, hm⟩ : ∃ m, o.length = m + 1 := ⟨o.length - 1, by omega⟩
      rw [hm, Nat.add_sub_cancel] at this
      rw [hm, Nat.pow_succ, lv, Nat.add_mul, Nat.mul_assoc]
      omega
/-- less by its first digits? -/
def preLess : List Nat → List Nat → Bool
  | _, [] => false
  | [], _ :: _ => true
  | b :: bs, s :: ss => if b = s then preLess bs ss else decide (b < s)
theorem preLess_spec : ∀ (b s : List Nat), Dg b → Dg s → (s = [] ∨ ∃ r d, s = r ++ [d] ∧ d ≠ 0) → (preLess b s = true ↔ val b * 10 ^ s.length < val s * 10 ^ b.length)
  | b, [], _, _, _ => by
    cases b <;> simp [preLess, val]
  | [], s :: ss, _, _, hl => by
    have hpos : 0 < val (s :: ss) := by
      rcases hl with h | ⟨r, d, e, h0⟩
      · cases h
      · rw [e, val_append]
        simp only [val, List.foldl_cons, List.foldl_nil]
        omega
    simp only [preLess, true_iff]
    show 0 * _ < _
    simpa using hpos
  | b :: bs, s :: ss, hb, hs, hl => by
    have vb := val_lt bs fun x hx => hb x (List.mem_cons_of_mem _ hx)
    have vs := val_lt ss fun x hx => hs x (List.mem_cons_of_mem _ hx)
    have pb : 0 < 10 ^ bs.length := Nat.pow_pos (by decide)
    have ps : 0 < 10 ^ ss.length := Nat.pow_pos (by decide)
    have hl2 : ss = [] ∨ ∃ r d, ss = r ++ [d] ∧ d ≠ 0 := by
      rcases hl with h | ⟨r, d, e, h0⟩
      · cases h
      · cases r with
        | nil => exact .inl (List.cons.inj e).2
        | cons x r => exact .inr ⟨r, d, (List.cons.inj e).2, h0⟩
    have ih := preLess_spec bs ss (fun x hx => hb x (List.mem_cons_of_mem _ hx)) (fun x hx => hs x (List.mem_cons_of_mem _ hx)) hl2
    rw [val_cons, val_cons, List.length_cons, List.length_cons, Nat.pow_succ, Nat.pow_succ]
    unfold preLess
    generalize val bs = B at *
    generalize val ss = S at *
    generalize 10 ^ bs.length = P at *
    generalize 10 ^ ss.length = Q at *
    have ring1 : ∀ x : Nat, (x * P + B) * (Q * 10) = x * (P * Q) * 10 + B * Q * 10 := fun x => by
      rw [Nat.add_mul]
      congr 1
      · simp only [Nat.mul_assoc]
      · simp only [Nat.mul_assoc]
    have ring2 : ∀ x : Nat, (x * Q + S) * (P * 10) = x * (P * Q) * 10 + S * P * 10 := fun x => by
      rw [Nat.add_mul]
      congr 1
      · rw [Nat.mul_comm P Q]; simp only [Nat.mul_assoc]
      · simp only [Nat.mul_assoc]
    rw [ring1, ring2]
    have hBQ : B * Q < P * Q := Nat.mul_lt_mul_of_pos_right vb ps
    have hSP : S * P < P * Q := by rw [Nat.mul_comm P Q]; exact Nat.mul_lt_mul_of_pos_right vs pb
    by_cases he : b = s
    · subst he
      rw [if_pos rfl, ih]
      omega
    · rw [if_neg he, decide_eq_true_eq]
      generalize P * Q = M at *
      constructor
      · intro h
        have : (b + 1) * M ≤ s * M := Nat.mul_le_mul_right _ h
        rw [Nat.add_mul] at this
        omega
      · intro h
        rcases Nat.lt_or_ge b s with g | g
        · exact g
        · exfalso
          have : (s + 1) * M ≤ b * M := Nat.mul_le_mul_right _ (by omega)
          rw [Nat.add_mul] at this
          omega
/-- a row of the sheet: how many digits a shift adds, and the digits from which on it is as many -/
structure Row (k δ : Nat) (c : List Nat) : Prop where
  val : Dc.val c = 5 ^ k
  len : c.length + δ = k + 1
  dg : Dg c
  hd : Hd c
  last : ∃ r d, c = r ++ [d] ∧ d ≠ 0
/-- so many digits are added -/
theorem left_len {k δ : Nat} {c : List Nat} (hr : Row k δ c) (hk : k ≤ 60) (ds : List Nat) (hg : Dg ds) (hh : Hd ds) :
    (mulGo k 0 ds.reverse).length + (if preLess ds c = true then 1 else 0) = ds.length + δ ∧ (preLess ds c = true → 1 ≤ δ) := by
  have hgr : Dg ds.reverse := fun d hd => hg d (List.mem_reverse.1 hd)
  obtain ⟨e1, e2, e3, e4⟩ := mulGo_spec k hk ds.reverse 0 hgr (Nat.zero_le _)
  have hlr : lv ds.reverse = val ds := by rw [lv_val, List.reverse_reverse]
  rw [hlr, Nat.zero_add] at e2 e4
  rw [List.length_reverse] at e3 e4
  have vlt := val_lt ds hg
  have vge := val_ge hh
  have hpl := preLess_spec ds c hg hr.dg (.inr hr.last)
  rw [hr.val] at hpl
  have c5 := val_lt c hr.dg
  have c5g := val_ge hr.hd
  rw [hr.val] at c5 c5g
  have hlen := hr.len
  have hl1 : 1 ≤ ds.length := by obtain ⟨d, t, e, _⟩ := hh; rw [e]; simp
  have hc1 : 1 ≤ c.length := by obtain ⟨d, t, e, _⟩ := hr.hd; rw [e]; simp
  -- the product's length
  have up : val ds * 2 ^ k < 10 ^ (mulGo k 0 ds.reverse).length := by
    rw [← e2, lv_val]
    have := val_lt (mulGo k 0 ds.reverse).reverse (fun d hd => e1 d (List.mem_reverse.1 hd))
    rw [List.length_reverse] at this
    exact this
  have p2 : 1 ≤ 2 ^ k := Nat.pow_pos (by decide)
  have lo : 10 ^ ((mulGo k 0 ds.reverse).length - 1) ≤ val ds * 2 ^ k := by
    rcases Nat.lt_or_ge ds.length (mulGo k 0 ds.reverse).length with g | g
    · exact e4 g
    · have : (mulGo k 0 ds.reverse).length = ds.length := by omega
      rw [this]
      exact Nat.le_trans vge (Nat.le_mul_of_pos_right _ p2)
  generalize (mulGo k 0 ds.reverse).length = l at *
  have uniq : ∀ m, 10 ^ (m - 1) ≤ val ds * 2 ^ k → val ds * 2 ^ k < 10 ^ m → 1 ≤ m → l = m := fun m h1 h2 hm => by
    rcases Nat.lt_trichotomy l m with g | g | g
    · exfalso
      have : 10 ^ l ≤ 10 ^ (m - 1) := Nat.pow_le_pow_right (by decide) (by omega)
      omega
    · exact g
    · exfalso
      have : 10 ^ m ≤ 10 ^ (l - 1) := Nat.pow_le_pow_right (by decide) (by omega)
      omega
  have h10 : ∀ x : Nat, 2 ^ k * 5 ^ k = 10 ^ k := fun _ => by rw [← Nat.mul_pow]
  have h25 := h10 0
  have p5 : 0 < 5 ^ k := Nat.pow_pos (by decide)
  cases hp : preLess ds c
  · -- as many
    have hge : 5 ^ k * 10 ^ ds.length ≤ val ds * 10 ^ c.length := by
      rcases Nat.lt_or_ge (val ds * 10 ^ c.length) (5 ^ k * 10 ^ ds.length) with g | g
      · rw [hpl.2 g] at hp; cases hp
      · exact g
    have hm : l = ds.length + δ := by
      refine uniq _ ?_ ?_ (by omega)
      · refine Nat.le_of_mul_le_mul_right (c := 10 ^ c.length) ?_ (Nat.pow_pos (by decide))
        rw [← Nat.pow_add, show ds.length + δ - 1 + c.length = k + ds.length by omega, Nat.pow_add, ← h25]
        calc 2 ^ k * 5 ^ k * 10 ^ ds.length = 5 ^ k * 10 ^ ds.length * 2 ^ k := by simp only [Nat.mul_comm, Nat.mul_assoc]
          _ ≤ val ds * 10 ^ c.length * 2 ^ k := Nat.mul_le_mul_right _ hge
          _ = val ds * 2 ^ k * 10 ^ c.length := Nat.mul_right_comm _ _ _
      · have : 2 ^ k ≤ 10 ^ δ := by
          refine Nat.le_of_mul_le_mul_right (c := 5 ^ k) ?_ p5
          rw [h25, show k = δ + (c.length - 1) by omega, Nat.pow_add]
          rw [show δ + (c.length - 1) = k by omega]
          exact Nat.mul_le_mul_left _ c5g
        calc val ds * 2 ^ k < 10 ^ ds.length * 2 ^ k := Nat.mul_lt_mul_of_pos_right vlt p2
          _ ≤ 10 ^ ds.length * 10 ^ δ := Nat.mul_le_mul_left _ this
          _ = 10 ^ (ds.length + δ) := (Nat.pow_add _ _ _).symm
    exact ⟨by simp [hm], fun h => by cases h⟩
  · -- one less
    have hlt := hpl.1 hp
    have hd1 : 1 ≤ δ := by
      rcases Nat.eq_zero_or_pos δ with g | g
      · exfalso
        have hck : c.length = k + 1 := by omega
        rw [hck, Nat.add_sub_cancel] at c5g
        have : 5 ^ k ≤ 10 ^ k := by rw [← h25]; exact Nat.le_mul_of_pos_left _ p2
        -- 10^k ≤ 5^k only at k = 0, where 5^0 = 1 and the digits are not less
        have h2 : 2 ^ k = 1 := by
          have : 2 ^ k * 5 ^ k ≤ 1 * 5 ^ k := by rw [h25, Nat.one_mul]; exact c5g
          have := Nat.le_of_mul_le_mul_right this p5
          omega
        have hk0 : k = 0 := by
          rcases Nat.eq_zero_or_pos k with g2 | g2
          · exact g2
          · exfalso
            have : 2 ^ 1 ≤ 2 ^ k := Nat.pow_le_pow_right (by decide) g2
            omega
        subst hk0
        rw [hck] at hlt
        obtain ⟨m, hm⟩ : ∃ m, ds.length = m + 1 := ⟨ds.length - 1, by omega⟩
        rw [hm, Nat.add_sub_cancel] at vge
        rw [hm] at hlt
        simp only [Nat.pow_zero, Nat.pow_succ, Nat.one_mul] at hlt
        omega
      · exact g
    have hm : l = ds.length + δ - 1 := by
      refine uniq _ ?_ ?_ (by omega)
      · have : 10 ^ (δ - 1) ≤ 2 ^ k := by
          refine Nat.le_of_mul_le_mul_right (c := 10 ^ c.length) ?_ (Nat.pow_pos (by decide))
          rw [← Nat.pow_add, show δ - 1 + c.length = k by omega, ← h25]
          exact Nat.mul_le_mul_left _ (by omega)
        calc 10 ^ (ds.length + δ - 1 - 1) = 10 ^ (ds.length - 1) * 10 ^ (δ - 1) := by rw [← Nat.pow_add]; congr 1; omega
          _ ≤ val ds * 2 ^ k := Nat.mul_le_mul vge this
      · refine Nat.lt_of_mul_lt_mul_right (a := 10 ^ c.length) ?_
        rw [← Nat.pow_add, show ds.length + δ - 1 + c.length = k + ds.length by omega, Nat.pow_add, ← h25]
        calc val ds * 2 ^ k * 10 ^ c.length = val ds * 10 ^ c.length * 2 ^ k := Nat.mul_right_comm _ _ _
          _ < 5 ^ k * 10 ^ ds.length * 2 ^ k := Nat.mul_lt_mul_of_pos_right hlt p2
          _ = 2 ^ k * 5 ^ k * 10 ^ ds.length := by simp only [Nat.mul_comm, Nat.mul_assoc]
    refine ⟨by simp; omega, fun _ => hd1⟩
def left (k : Nat) (s : DS) : DS :=
  let o := (mulGo k 0 s.ds.reverse).reverse
  ⟨trimZ (o.take 800), s.dp + ((o.length : Int) - (s.ds.length : Int)), s.tr || lost o⟩
theorem left_spec (k : Nat) (hk : k ≤ 60) (s : DS) (h : Ok s) : Dg (mulGo k 0 s.ds.reverse).reverse ∧ Hd (mulGo k 0 s.ds.reverse).reverse ∧ val (mulGo k 0 s.ds.reverse).reverse = val s.ds * 2 ^ k ∧ s.ds.length ≤ (mulGo k 0 s.ds.reverse).length := by
  have hgr : Dg s.ds.reverse := fun d hd => h.dg d (List.mem_reverse.1 hd)
  obtain ⟨e1, e2, e3, e4⟩ := mulGo_spec k hk s.ds.reverse 0 hgr (Nat.zero_le _)
  have hlr : lv s.ds.reverse = val s.ds := by rw [lv_val, List.reverse_reverse]
  rw [hlr, Nat.zero_add] at e2 e4
  rw [List.length_reverse] at e3 e4
  have hg : Dg (mulGo k 0 s.ds.reverse).reverse := fun d hd => e1 d (List.mem_reverse.1 hd)
  have hv : val (mulGo k 0 s.ds.reverse).reverse = val s.ds * 2 ^ k := by rw [← lv_val, e2]
  refine ⟨hg, ?_, hv, e3⟩
  have vge := val_ge h.hd
  have p2 : 1 ≤ 2 ^ k := Nat.pow_pos (by decide)
  have hl1 : 1 ≤ s.ds.length := by obtain ⟨d, t, e, _⟩ := h.hd; rw [e]; simp
  have lo : 10 ^ ((mulGo k 0 s.ds.reverse).length - 1) ≤ val s.ds * 2 ^ k := by
    rcases Nat.lt_or_ge s.ds.length (mulGo k 0 s.ds.reverse).length with g | g
    · exact e4 g
    · have : (mulGo k 0 s.ds.reverse).length = s.ds.length := by omega
      rw [this]
      exact Nat.le_trans vge (Nat.le_mul_of_pos_right _ p2)
  rw [← hv] at lo
  have hlen : ((mulGo k 0 s.ds.reverse).reverse).length = (mulGo k 0 s.ds.reverse).length := List.length_reverse
  rw [← hlen] at lo e3
  generalize (mulGo k 0 s.ds.reverse).reverse = o at *
  cases o with
  | nil => exact absurd (show s.ds.length ≤ 0 from e3) (by omega)
  | cons d r =>
    refine ⟨d, r, rfl, ?_⟩
    rintro rfl
    have := val_lt r fun x hx => hg x (List.mem_cons_of_mem _ hx)
    rw [val_cons, List.length_cons, Nat.add_sub_cancel] at lo
    omega
theorem left_ok (k : Nat) (hk : k ≤ 60) (s : DS) (h : Ok s) : Ok (left k s) := by
  obtain ⟨f1, f2, _⟩ := left_spec k hk s h
  exact Ok.take f1 f2 _ _
/-- how far below one it is -/
def iv (l : List Nat) (dp : Int) : Nat := if 0 < dp then 0 else 10 ^ (l.length + (-dp).toNat) / val l
theorem iv_trim (l : List Nat) (dp : Int) : iv (trimZ l) dp = iv l dp := by
  obtain ⟨m, e⟩ := trimZ_split l
  unfold iv
  split
  · rfl
  · conv => rhs; rw [e]
    rw [val_append, val_zeros, List.length_append, List.length_replicate, Nat.add_zero, Nat.add_right_comm, Nat.pow_add _ _ m]
    exact (Nat.mul_div_mul_right _ _ (Nat.pow_pos (by decide))).symm
/-- it is less than a half -/
def Half (s : DS) : Prop := s.dp < 0 ∨ (s.dp = 0 ∧ ∃ d r, s.ds = d :: r ∧ d < 5)
theorem iv_two {s : DS} (h : Ok s) (hh : Half s) : 2 ≤ iv s.ds s.dp := by
  have vge := val_ge h.hd
  have vpos : 0 < val s.ds := Nat.lt_of_lt_of_le (Nat.pow_pos (by decide)) vge
  unfold iv
  rcases hh with g | ⟨g, d, r, e, hd⟩
  · rw [if_neg (by omega), Nat.le_div_iff_mul_le vpos]
    have := val_lt s.ds h.dg
    obtain ⟨m, hm⟩ : ∃ m : Nat, (-s.dp).toNat = m + 1 := ⟨(-s.dp).toNat - 1, by omega⟩
    rw [hm, Nat.pow_add]
    have h10 : 10 ≤ 10 ^ (m + 1) := by rw [Nat.pow_succ]; have := Nat.pow_pos (n := m) (show 0 < 10 by decide); omega
    calc 2 * val s.ds ≤ 10 ^ s.ds.length * 10 := by omega
      _ ≤ _ := Nat.mul_le_mul_left _ h10
  · rw [if_neg (by omega), Nat.le_div_iff_mul_le vpos, g]
    have := val_lt r fun x hx => h.dg x (by rw [e]; exact List.mem_cons_of_mem _ hx)
    rw [e, val_cons, List.length_cons]
    show 2 * (d * 10 ^ r.length + val r) ≤ 10 ^ (r.length + 1)
    have : d * 10 ^ r.length ≤ 4 * 10 ^ r.length := Nat.mul_le_mul_right _ (by omega)
    rw [Nat.pow_succ]
    omega
theorem left_less (k : Nat) (hk1 : 1 ≤ k) (hk : k ≤ 60) (s : DS) (h : Ok s) (hh : Half s) : iv (left k s).ds (left k s).dp < iv s.ds s.dp := by
  have h2 := iv_two h hh
  have hdp : s.dp ≤ 0 := by rcases hh with g | ⟨g, _⟩ <;> omega
  obtain ⟨f1, f2, f3, f4⟩ := left_spec k hk s h
  unfold left
  simp only
  rw [iv_trim]
  have hlen : ((mulGo k 0 s.ds.reverse).reverse).length = (mulGo k 0 s.ds.reverse).length := List.length_reverse
  rw [← hlen] at f4
  generalize (mulGo k 0 s.ds.reverse).reverse = o at *
  have vpos : 0 < val s.ds := Nat.lt_of_lt_of_le (Nat.pow_pos (by decide)) (val_ge h.hd)
  unfold iv
  by_cases hp : 0 < s.dp + ((o.length : Int) - (s.ds.length : Int))
  · rw [if_pos hp]
    unfold iv at h2
    omega
  rw [if_neg hp]
  unfold iv at h2
  rw [if_neg (by omega)] at h2 ⊢
  have hsplit := (List.take_append_drop 800 o).symm
  have hvo : val o = val (o.take 800) * 10 ^ (o.drop 800).length + val (o.drop 800) := by
    conv => lhs; rw [hsplit]
    exact val_append _ _
  have hgd : val (o.drop 800) < 10 ^ (o.drop 800).length := val_lt _ fun d hd => f1 d (List.mem_of_mem_drop hd)
  have hht : Hd (o.take 800) := by
    obtain ⟨d, r, e, h0⟩ := f2
    exact ⟨d, r.take 799, by rw [e]; rfl, h0⟩
  have vtg := val_ge hht
  have key : 10 * val o ≤ 11 * (val (o.take 800) * 10 ^ (o.drop 800).length) := by
    by_cases hm : (o.drop 800).length = 0
    · rw [hm] at hvo hgd ⊢
      simp only [Nat.pow_zero, Nat.mul_one] at hvo hgd ⊢
      omega
    · have hl8 : (o.take 800).length = 800 := by
        rw [List.length_take]; rw [List.length_drop] at hm; omega
      rw [hl8] at vtg
      have h10 : 10 ≤ val (o.take 800) := Nat.le_trans (by decide +kernel) vtg
      have : 10 * 10 ^ (o.drop 800).length ≤ val (o.take 800) * 10 ^ (o.drop 800).length := Nat.mul_le_mul_right _ h10
      omega
  have hexp : (o.take 800).length + (-(s.dp + ((o.length : Int) - (s.ds.length : Int)))).toNat + (o.drop 800).length = s.ds.length + (-s.dp).toNat := by
    have := congrArg List.length hsplit
    rw [List.length_append] at this
    omega
  have hpw : 10 ^ (s.ds.length + (-s.dp).toNat) = 10 ^ ((o.take 800).length + (-(s.dp + ((o.length : Int) - (s.ds.length : Int)))).toNat) * 10 ^ (o.drop 800).length := by rw [← hexp, Nat.pow_add]
  rw [hpw] at h2 ⊢
  generalize 10 ^ ((o.take 800).length + (-(s.dp + ((o.length : Int) - (s.ds.length : Int)))).toNat) = Y at *
  rw [f3] at key
  generalize val (o.take 800) = T at *
  generalize 10 ^ (o.drop 800).length = M at *
  generalize val s.ds = D at *
  have h2k : 2 ≤ 2 ^ k := by
    calc 2 = 2 ^ 1 := rfl
      _ ≤ 2 ^ k := Nat.pow_le_pow_right (by decide) hk1
  have hD : D * 2 ≤ D * 2 ^ k := Nat.mul_le_mul_left _ h2k
  have a1 := Nat.div_mul_le_self Y T
  have a2 : Y * M < (Y * M / D + 1) * D := by
    have := Nat.lt_mul_div_succ (Y * M) vpos
    rw [Nat.mul_comm D] at this
    exact this
  generalize Y / T = A at *
  generalize Y * M / D = B at *
  have b1 : A * T * M ≤ Y * M := Nat.mul_le_mul_right _ a1
  have b2 : A * (20 * D) ≤ A * (11 * (T * M)) := Nat.mul_le_mul_left _ (by omega)
  have b3 : A * (11 * (T * M)) = 11 * (A * T * M) := by rw [Nat.mul_left_comm, Nat.mul_assoc]
  have b4 : A * 20 * D < (11 * (B + 1)) * D := by
    calc A * 20 * D = A * (20 * D) := Nat.mul_assoc _ _ _
      _ ≤ 11 * (A * T * M) := by rw [← b3]; exact b2
      _ ≤ 11 * (Y * M) := Nat.mul_le_mul_left _ b1
      _ < 11 * ((B + 1) * D) := Nat.mul_lt_mul_of_pos_left a2 (by decide)
      _ = _ := (Nat.mul_assoc _ _ _).symm
  have b5 := Nat.lt_of_mul_lt_mul_right b4
  omega
end Go.Proofs.YtnccpddjdgndcaaGreatDoor.Dc
end

section
/- A DECIMAL IN MEMORY; THE WALKS OF strconv's trim AND prefixIsLessThan. -/
namespace Go.Proofs.YtnccpddjdgndcaaGreatDoor.Dc
open Go.RowKit
/-- one block may turn -/
structure DK (b : Nat) (W W2 : World) : Prop where
  os : W2.os = W.os
  tape : W2.tape = W.tape
  output : W2.output = W.output
  size : W.heap.size ≤ W2.heap.size
  block : ∀ p, p < W.heap.size → p ≠ b → W2.heap[p]? = W.heap[p]?
theorem DK.refl (b : Nat) (W : World) : DK b W W := ⟨rfl, rfl, rfl, Nat.le_refl _, fun _ _ _ => rfl⟩
theorem DK.trans {b : Nat} {W W2 W3 : World} (h : DK b W W2) (k : DK b W2 W3) : DK b W W3 :=
  ⟨k.os.trans h.os, k.tape.trans h.tape, k.output.trans h.output, Nat.le_trans h.size k.size, fun p hp hne => (k.block p (Nat.lt_of_lt_of_le hp h.size) hne).trans (h.block p hp hne)⟩
theorem dk_below {b : Nat} {W W2 : World} {B : Nat} (h : Below B W W2) (hB : W.heap.size ≤ B) : DK b W W2 := ⟨h.os, h.tape, h.output, h.size, fun p hp _ => h.block p (by omega)⟩
theorem dk_set (b o : Nat) (W : World) (v : Value) : DK b W (W.setCell ⟨b, o, none⟩ v) := ⟨rfl, rfl, rfl, by simp, fun p _ hne => Below.heap_setCell _ _ _ _ hne⟩
theorem dk_drewN (b n : Nat) (W : World) : DK b W (W.drewN n) := ⟨rfl, rfl, rfl, Nat.le_refl _, fun _ _ _ => rfl⟩
theorem DK.low {b B : Nat} {W W2 : World} (h : DK b W W2) (hB : B ≤ b) (hs : B ≤ W.heap.size) : Below B W W2 := ⟨h.os, h.tape, h.output, h.size, fun p hp => h.block p (by omega) (by omega)⟩
theorem DK.cell {b : Nat} {W W2 : World} (h : DK b W W2) {p : Addr} (h1 : p.block < W.heap.size) (h2 : p.block ≠ b) : W2.cell? p = W.cell? p := World.cell?_of_block (w := W) (h.block _ h1 h2)
theorem DK.frozen {b : Nat} {W W2 : World} (h : DK b W W2) {p : Addr} (h1 : p.block < W.heap.size) (h2 : p.block ≠ b) : W2.frozen? p = W.frozen? p := World.frozen?_of_block (w := W) (h.block _ h1 h2)
/-- a decimal's block: 800 bytes, a count, a point, two answers -/
structure DArr (W : World) (b : Nat) (arr : Nat → Nat) (nd dp : Int) : Prop where
  d : ∀ i, i < 800 → W.cell? ⟨b, i, none⟩ = some (.int .u8 ((arr i : Nat) : Int))
  nd : W.cell? ⟨b, 800, none⟩ = some (.int .i64 nd)
  dp : W.cell? ⟨b, 801, none⟩ = some (.int .i64 dp)
  ng : ∃ x : Bool, W.cell? ⟨b, 802, none⟩ = some (.bool x)
  tr : ∃ x : Bool, W.cell? ⟨b, 803, none⟩ = some (.bool x)
  fz : ∀ o, W.frozen? ⟨b, o, none⟩ = false
def upd (arr : Nat → Nat) (i n : Nat) : Nat → Nat := fun j => if j = i then n else arr j
theorem DArr.drewN {W : World} {b : Nat} {arr : Nat → Nat} {nd dp : Int} (h : DArr W b arr nd dp) (n : Nat) : DArr (W.drewN n) b arr nd dp :=
  ⟨fun i hi => by simpa using h.d i hi, by simpa using h.nd, by simpa using h.dp, by simpa using h.ng, by simpa using h.tr, fun o => by simpa using h.fz o⟩
theorem set_other (W : World) (b i j : Nat) (v : Value) (h : j ≠ i) : (W.setCell ⟨b, i, none⟩ v).cell? ⟨b, j, none⟩ = W.cell? ⟨b, j, none⟩ := World.cell?_setCell_other _ _ _ _ (fun e => h (congrArg Addr.off e).symm)
theorem DArr.setD {W : World} {b : Nat} {arr : Nat → Nat} {nd dp : Int} (h : DArr W b arr nd dp) (i n : Nat) (hi : i < 800) : DArr (W.setCell ⟨b, i, none⟩ (.int .u8 (n : Int))) b (upd arr i n) nd dp := by
  obtain ⟨x, hx⟩ := h.ng
  obtain ⟨y, hy⟩ := h.tr
  refine ⟨fun j hj => ?_, (set_other _ _ _ _ _ (by omega)).trans h.nd, (set_other _ _ _ _ _ (by omega)).trans h.dp, ⟨x, (set_other _ _ _ _ _ (by omega)).trans hx⟩, ⟨y, (set_other _ _ _ _ _ (by omega)).trans hy⟩, fun o => by rw [World.frozen?_setCell]; exact h.fz o⟩
  unfold upd
  by_cases e : j = i
  · subst e
    rw [if_pos rfl]
    exact World.cell?_setCell_same _ _ _ (h.d j hj)
  · rw [if_neg e]
    exact (set_other _ _ _ _ _ e).trans (h.d j hj)
theorem DArr.setNd {W : World} {b : Nat} {arr : Nat → Nat} {nd dp : Int} (h : DArr W b arr nd dp) (n : Int) : DArr (W.setCell ⟨b, 800, none⟩ (.int .i64 n)) b arr n dp := by
  obtain ⟨x, hx⟩ := h.ng
  obtain ⟨y, hy⟩ := h.tr
  exact ⟨fun j hj => (set_other _ _ _ _ _ (by omega)).trans (h.d j hj), World.cell?_setCell_same _ _ _ h.nd, (set_other _ _ _ _ _ (by omega)).trans h.dp, ⟨x, (set_other _ _ _ _ _ (by omega)).trans hx⟩, ⟨y, (set_other _ _ _ _ _ (by omega)).trans hy⟩, fun o => by rw [World.frozen?_setCell]; exact h.fz o⟩
theorem DArr.setDp {W : World} {b : Nat} {arr : Nat → Nat} {nd dp : Int} (h : DArr W b arr nd dp) (n : Int) : DArr (W.setCell ⟨b, 801, none⟩ (.int .i64 n)) b arr nd n := by
  obtain ⟨x, hx⟩ := h.ng
  obtain ⟨y, hy⟩ := h.tr
  exact ⟨fun j hj => (set_other _ _ _ _ _ (by omega)).trans (h.d j hj), (set_other _ _ _ _ _ (by omega)).trans h.nd, World.cell?_setCell_same _ _ _ h.dp, ⟨x, (set_other _ _ _ _ _ (by omega)).trans hx⟩, ⟨y, (set_other _ _ _ _ _ (by omega)).trans hy⟩, fun o => by rw [World.frozen?_setCell]; exact h.fz o⟩
theorem DArr.setNg {W : World} {b : Nat} {arr : Nat → Nat} {nd dp : Int} (h : DArr W b arr nd dp) (z : Bool) : DArr (W.setCell ⟨b, 802, none⟩ (.bool z)) b arr nd dp := by
  obtain ⟨x, hx⟩ := h.ng
  obtain ⟨y, hy⟩ := h.tr
  exact ⟨fun j hj => (set_other _ _ _ _ _ (by omega)).trans (h.d j hj), (set_other _ _ _ _ _ (by omega)).trans h.nd, (set_other _ _ _ _ _ (by omega)).trans h.dp, ⟨z, World.cell?_setCell_same _ _ _ hx⟩, ⟨y, (set_other _ _ _ _ _ (by omega)).trans hy⟩, fun o => by rw [World.frozen?_setCell]; exact h.fz o⟩
theorem DArr.setTr {W : World} {b : Nat} {arr : Nat → Nat} {nd dp : Int} (h : DArr W b arr nd dp) (z : Bool) : DArr (W.setCell ⟨b, 803, none⟩ (.bool z)) b arr nd dp := by
  obtain ⟨x, hx⟩ := h.ng
  obtain ⟨y, hy⟩ := h.tr
  exact ⟨fun j hj => (set_other _ _ _ _ _ (by omega)).trans (h.d j hj), (set_other _ _ _ _ _ (by omega)).trans h.nd, (set_other _ _ _ _ _ (by omega)).trans h.dp, ⟨x, (set_other _ _ _ _ _ (by omega)).trans hx⟩, ⟨z, World.cell?_setCell_same _ _ _ hy⟩, fun o => by rw [World.frozen?_setCell]; exact h.fz o⟩
/-- digits stand in an array from its beginning -/
def Lies (arr : Nat → Nat) (ds : List Nat) : Prop := ∀ i (h : i < ds.length), arr i = 48 + ds[i]
/-- a decimal lies there -/
def DAt (W : World) (b : Nat) (ds : List Nat) (dp : Int) : Prop := ∃ arr, DArr W b arr (ds.length : Int) dp ∧ Lies arr ds ∧ ds.length ≤ 800
theorem trimZ_snoc0 (l : List Nat) : trimZ (l ++ [0]) = trimZ l := by
  unfold trimZ
  rw [List.reverse_append]
  rfl
theorem trimZ_snoc (l : List Nat) (d : Nat) (h : d ≠ 0) : trimZ (l ++ [d]) = l ++ [d] := by
  unfold trimZ
  rw [List.reverse_append, List.reverse_singleton, List.singleton_append, List.dropWhile_cons, if_neg (by simpa using h)]
  simp
/-- the point of what is struck -/
def trimDp (ds : List Nat) (dp : Int) : Int := if trimZ ds = [] then 0 else dp
theorem trimDp_hd {ds : List Nat} (h : Hd ds) (dp : Int) : trimDp ds dp = dp := by
  obtain ⟨d, r, e, _⟩ := trimZ_hd h
  unfold trimDp
  rw [if_neg (by rw [e]; simp)]
def ndOf (W : World) (b : Nat) : Nat := match W.cell? ⟨b, 800, none⟩ with
  | some (.int _ n) => n.toNat
  | _ => 0
set_option maxRecDepth 20000 in
set_option maxHeartbeats 1000000 in
/-- zeros at the end are struck -/
theorem trim_any (b : Nat) (arr : Nat → Nat) (ds : List Nat) (dp : Int) (w : World) (hd : DArr w b arr (ds.length : Int) dp) (hl : Lies arr ds) (h8 : ds.length ≤ 800) (hg : Dg ds) :
    Calls Tryz.prog 175 #[.pointer (some ⟨b, 0, none⟩)] w fun e w' => e = .returned (.tuple #[]) ∧ DAt w' b (trimZ ds) (trimDp ds dp) ∧ DK b w w' := by
  have HD := Lib.hid hd; have HL := Lib.hid hl; have HG := Lib.hid hg
  clear hd hl hg
  go_enter Tryz.func175, Tryz.ntmps175
  go_wp2_with fail
  go_loopw [] (fun wr => ∃ n : Nat, n ≤ ds.length ∧ DArr wr b arr (n : Int) dp ∧ trimZ (ds.take n) = trimZ ds ∧ DK b w wr) (fun wr => ndOf wr b)
  case atStart => exact ⟨ds.length, Nat.le_refl _, HD.out, by rw [List.take_length], DK.refl _ _⟩
  case round =>
    obtain ⟨n, hn, hd, ht, hk⟩ := hrel
    have HD2 := Lib.hid hd; have HT := Lib.hid ht; have HK := Lib.hid hk
    have y8 := hd.nd; have y9 := hd.dp; have yz := hd.fz
    have hm : ndOf wr b = n := by unfold ndOf; rw [hd.nd]; simp
    have HM := Lib.hid hm
    clear ht hk hm HD
    by_cases h0 : n = 0
    · subst h0
      clear hd
      go_wp2_with fail
      go_quiet (fail)
      go_wp2_with fail
      go_end0
      have htz : trimZ ds = [] := by rw [← HT.out]; rfl
      have hdp : trimDp ds dp = 0 := by unfold trimDp; rw [if_pos htz]
      refine ⟨rfl, ?_, HK.out.trans ((dk_drewN _ _ _).trans (dk_set _ _ _ _))⟩
      rw [htz, hdp]
      exact ⟨arr, (HD2.out.drewN nq).setDp 0, fun i hi => absurd hi (by simp), by simp⟩
    · obtain ⟨m, rfl⟩ : ∃ m, n = m + 1 := ⟨n - 1, by omega⟩
      have i0 : (0 : Int) < ((m + 1 : Nat) : Int) := by omega
      have i1 : IntKind.i64.wrap (((m + 1 : Nat) : Int) - 1) = (m : Int) := by rw [IntWalk.i64_in _ (by omega)]; omega
      have i2 : (0 : Int) ≤ (m : Int) := by omega
      have i3 : (m : Int) < 800 := by omega
      have ym := hd.d m (by omega)
      have hlm := HL.out m (by omega)
      rw [hlm] at ym
      have hg9 := HG.out ds[m] (List.getElem_mem _)
      have hst := List.take_succ_eq_append_getElem (l := ds) (i := m) (by omega)
      have HST := Lib.hid hst
      clear hd hlm hst
      obtain ⟨d, hdm⟩ : ∃ d, ds[m]'(by omega) = d := ⟨_, rfl⟩
      rw [hdm] at ym hg9
      have HDM := Lib.hid hdm
      clear hdm
      by_cases hz : d = 0
      · subst hz
        go_wp2_with fail
        go_quiet (fail)
        go_wp2_with fail
        have hn2 := ((HD2.out.drewN nq).setNd (m : Int))
        refine ⟨⟨m, by omega, hn2, ?_, HK.out.trans ((dk_drewN _ _ _).trans (dk_set _ _ _ _))⟩, ?_⟩
        · rw [← HT.out, HST.out, HDM.out, trimZ_snoc0]
        · rw [HM.out]
          unfold ndOf
          rw [hn2.nd]
          simp
      · have e0 : (((48 + d : Nat) : Int) == 48) = false := by rw [beq_eq_false_iff_ne]; omega
        go_wp2_with fail
        go_quiet (fail)
        go_wp2_with fail
        go_end0
        have htz : trimZ ds = ds.take (m + 1) := by rw [← HT.out, HST.out, HDM.out, trimZ_snoc _ _ hz]
        have hdp : trimDp ds dp = dp := by
          unfold trimDp
          rw [if_neg]
          rw [htz]
          intro e
          clear i1 HDM HST
          have h0 : (ds.take (m + 1)).length = 0 := by rw [e]; rfl
          rw [List.length_take] at h0
          omega
        have hle : (ds.take (m + 1)).length = m + 1 := by clear i1 HDM HST htz; rw [List.length_take]; omega
        refine ⟨rfl, ?_, HK.out.trans (dk_drewN _ _ _)⟩
        rw [htz, hdp]
        refine ⟨arr, ?_, fun i hi => ?_, by omega⟩
        · rw [hle]; exact HD2.out.drewN nq
        · rw [List.getElem_take]; exact HL.out i (by omega)
theorem drawn2 (w : World) (a b c : Nat) : ∃ n, ((w.drewN a).drewN b).drewN c = w.drewN n := ⟨a + b + c, by simp [Nat.add_assoc]⟩
/-- bytes that a slice shows -/
def Shows (W : World) (b : Nat) (ds : List Nat) : Prop := ∀ i (h : i < ds.length), W.cell? ⟨b, i, none⟩ = some (.int .u8 ((48 + ds[i] : Nat) : Int))
set_option maxRecDepth 20000 in
set_option maxHeartbeats 1000000 in
theorem pless_any (b cap : Nat) (ds : List Nat) (s : List UInt8) (cs : List Nat) (w : World) (hd : Shows w b ds) (hg : Dg ds) (h8 : ds.length ≤ cap) (hs : s.length = cs.length) (hsl : s.length ≤ 100) (hsc : ∀ i (h : i < cs.length), (s[i]'(by omega)).toNat = 48 + cs[i]) (hcg : Dg cs) :
    Calls Tryz.prog 195 #[.slice (some ⟨b, 0, none⟩) ds.length cap, .string ⟨s.toArray⟩] w fun e w' => e = .returned (.bool (preLess ds cs)) ∧ ∃ n, w' = w.drewN n := by
  have hat : ∀ i, i < s.length → i < cs.length ∧ ∀ h : i < (⟨s.toArray⟩ : ByteArray).size, ((⟨s.toArray⟩ : ByteArray)[i].toNat) = 48 + cs[i]! := fun i hi => by
    refine ⟨by omega, fun h => ?_⟩
    rw [getElem!_pos cs i (by omega), ← hsc i (by omega)]
    show (s.toArray[i]).toNat = _
    simp
  have hgc : ∀ i (h : i < cs.length), cs[i]! ≤ 9 := fun i h => by rw [getElem!_pos cs i h]; exact hcg _ (List.getElem_mem h)
  have hdr : ∀ i, i < cs.length → cs.drop i = cs[i]! :: cs.drop (i + 1) := fun i h => by rw [getElem!_pos cs i h]; exact List.drop_eq_getElem_cons h
  have HD := Lib.hid hd; have HG := Lib.hid hg; have HAT := Lib.hid hat; have HGC := Lib.hid hgc; have HDR := Lib.hid hdr; have HS := Lib.hid hs
  have hlc : cs.length ≤ 100 := by omega
  clear hd hg hsc hcg hs hat hgc hdr
  go_enter Tryz.func195, Tryz.ntmps195
  go_wp2_with fail
  go_loopw [5] (fun vi wr => ∃ k n : Nat, k ≤ cs.length ∧ k ≤ ds.length ∧ vi = .int .i64 (k : Int) ∧ wr = w.drewN n ∧ preLess (ds.drop k) (cs.drop k) = preLess ds cs) (fun vi _ => 100 - (intOf vi).toNat)
  case atStart => exact ⟨0, 0, Nat.zero_le _, Nat.zero_le _, rfl, rfl, rfl⟩
  case round =>
    obtain ⟨k, n, hk, hk2, rfl, rfl, hp⟩ := hrel
    have HP := Lib.hid hp
    clear hp
    have hsz : (⟨s.toArray⟩ : ByteArray).size = s.length := by show s.toArray.size = _; simp
    have HSZ := Lib.hid hsz
    clear hsz
    have hs := HS.out
    by_cases hc : k < cs.length
    · have i1 : (k : Int) < (s.length : Int) := by omega
      have i2 : (0 : Int) ≤ (k : Int) := by omega
      by_cases hd : k < ds.length
      · have j1 : (k : Int) < (ds.length : Int) := by omega
        have j2 : (k : Int) < (cap : Int) := by omega
        have hks : k < (⟨s.toArray⟩ : ByteArray).size := by rw [HSZ.out]; omega
        have yk := HD.out k hd
        have hbk := (HAT.out k (by omega)).2 hks
        have hdd := List.drop_eq_getElem_cons hd
        have g1 := HG.out ds[k] (List.getElem_mem hd)
        have g2 := HGC.out k hc
        have hp := HP.out
        rw [hdd, HDR.out k hc] at hp
        obtain ⟨u, hu⟩ : ∃ u : Int, (((⟨s.toArray⟩ : ByteArray)[k]).toNat : Int) = u := ⟨_, rfl⟩
        have hix : u = 48 + (cs[k]! : Int) := by omega
        clear hs hdd hbk
        generalize cs[k]! = c at *
        generalize ds[k]'hd = d at *
        obtain ⟨v, hv⟩ : ∃ v : Int, ((48 + d : Nat) : Int) = v := ⟨_, rfl⟩
        rw [hv] at yk
        have HP2 := Lib.hid hp; have HU := Lib.hid hu
        clear hp
        have q0 : v ≠ (((⟨s.toArray⟩ : ByteArray)[k]).toNat : Int) ↔ d ≠ c := by rw [hu]; omega
        have q3 : decide (v < (((⟨s.toArray⟩ : ByteArray)[k]).toNat : Int)) = decide (d < c) := by
          rw [hu, Bool.eq_iff_iff, decide_eq_true_eq, decide_eq_true_eq]; omega
        by_cases he : d = c
        · have q1 : (v != (((⟨s.toArray⟩ : ByteArray)[k]).toNat : Int)) = false := by
            rw [bne_eq_false_iff_eq]
            exact Classical.byContradiction fun h => q0.1 h he
          clear hix hu hv q0 q3
          go_wp2_with fail
          go_quiet (fail)
          go_wp2_with fail
          refine ⟨⟨k + 1, n + nq, by omega, by omega, by go_num, rfl, ?_⟩, by simp [intOf]; go_num⟩
          have := HP2.out
          rw [he, preLess, if_pos rfl] at this
          exact this
        · have q1 : (v != (((⟨s.toArray⟩ : ByteArray)[k]).toNat : Int)) = true := by
            rw [bne_iff_ne]
            exact q0.2 he
          clear hix hu hv q0
          go_wp2_with fail
          go_quiet (fail)
          go_wp2_with fail
          go_quiet (fail)
          go_wp2_with fail
          go_ret
          have := HP2.out
          rw [preLess, if_neg he] at this
          refine ⟨?_, drawn2 _ _ _ _⟩
          rw [← this, ← q3]
          rfl
      · have j1 : ¬ (k : Int) < (ds.length : Int) := by omega
        have j3 : (ds.length : Int) ≤ (k : Int) := by omega
        have hp := HP.out
        rw [List.drop_of_length_le (by omega : ds.length ≤ k), HDR.out k hc, preLess] at hp
        have HP2 := Lib.hid hp
        clear hs hp
        go_wp2_with fail
        go_ret
        exact ⟨by rw [← HP2.out]; rfl, _, rfl⟩
    · have i1 : ¬ (k : Int) < (s.length : Int) := by omega
      have hp := HP.out
      rw [List.drop_of_length_le (by omega : cs.length ≤ k)] at hp
      have hp2 : preLess ds cs = false := by rw [← hp]; cases ds.drop k <;> rfl
      have HP2 := Lib.hid hp2
      clear hs hp hp2
      go_wp2_with fail
      go_ret
      exact ⟨by rw [HP2.out]; rfl, _, rfl⟩
end Go.Proofs.YtnccpddjdgndcaaGreatDoor.Dc
end
