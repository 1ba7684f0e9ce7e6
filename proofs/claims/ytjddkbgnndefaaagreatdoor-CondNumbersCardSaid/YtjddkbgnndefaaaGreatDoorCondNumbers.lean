/- The statement CondNumbers is proved: of two comparisons by numbers one implies the other one just if it has to, among all. -/
import Derived.Test.YtjddkbgnndefaaaGreatDoorFrameC
import Derived.Test.YtjddkbgnndefaaaGreatDoorOpenG
import Derived.Test.YtjddkbgnndefaaaGreatDoorLaid
import Derived.Test.YtjddkbgnndefaaaGreatDoorImpl
import Derived.Test.YtjddkbgnndefaaaGreatDoorCanon
import Derived.Test.YtjddkbgnndefaaaGreatDoorNumLaw
namespace Go.Proofs.YtjddkbgnndefaaaGreatDoor.Val
open Go.RowKit Go.ChangeShapes Go.WideShapes Go.ChangeAt Flt
theorem words_ofNumbers {W : World} (h : laidMetH Tryz.prog Rows.condNumbersRow.laid W) : Words W := fun i hi =>
  Laid.strs (name := "gazette/cond.words") (zs := [[61], [33, 61], [60], [60, 61], [62], [62, 61], [94], [104, 97, 115]]) (by kernel_rfl) (by kernel_rfl) (by kernel_rfl) Tryz.underlying63 Tryz.underlying9 (by kernel_rfl) (by kernel_rfl) (by kernel_rfl) h i hi
theorem okWide_arrv {Pr : Program} {w : World} {r : Reach} {b0 : Nat} {t e : TypeId} {n : Nat} {v : Value} (hu : Pr.underlying t = some (.array n e)) (hv : Value.okWide Pr w r b0 t v) : ∃ cs, v = .agg cs := by
  simp only [Value.okWide, hu] at hv
  obtain ⟨cs, h, _⟩ := hv
  exact ⟨cs, h⟩
set_option maxRecDepth 100000 in
theorem open_arr2 {H : Type} {enc : TypeId × Value → H} {w : World} {base : Nat} {spare : Nat → Bool} {held : Bool} {r : Reach} {b0 : Nat} {v : Value} {d : DataW H} {p : List MemPlace} (hv : Value.okWide Tryz.prog w r b0 41 v) (h : DataW.Trod enc Tryz.prog w base spare held 41 v d p) :
    ∃ m n : Int, v = .agg #[.int .i64 m, .int .i64 n] := by
  have hu : Tryz.prog.underlying 41 = some (.array 2 3) := Tryz.underlying41
  have hc : Tryz.prog.cellsOf 3 = 1 := by kernel_rfl
  have hc2 : Tryz.prog.cellsOf 41 = 2 := by kernel_rfl
  obtain ⟨cs, rfl⟩ := okWide_arrv hu hv
  obtain ⟨fuel, hf⟩ := h
  obtain ⟨xs, m, _, _, hl, hx, hi⟩ := DataW.trod_array hu hf
  rw [hc2] at hl
  obtain ⟨l⟩ := cs
  have hl' : l.length = 2 := by simpa [Value.cells] using hl
  match l, hl' with
  | [c0, c1], _ =>
    have h0 := hi 0 (by decide)
    have h1 := hi 1 (by decide)
    rw [hc] at h0 h1
    rw [List.getElem?_eq_getElem (by omega)] at h0 h1
    simp only [Value.cells, Nat.zero_mul, Nat.one_mul, List.drop_zero, List.drop_succ_cons, List.take_succ_cons, List.take_zero] at h0 h1
    obtain ⟨a, e0, _⟩ := DataW.trod_int Tryz.underlying3 h0
    obtain ⟨b, e1, _⟩ := DataW.trod_int Tryz.underlying3 h1
    simp only [List.cons.injEq, and_true] at e0 e1
    exact ⟨a, b, by rw [e0, e1]⟩
theorem and_small (a : Int) (k m : Nat) (hm : m = 2 ^ k - 1) (hk : k < 60) : ∃ A : Nat, A < 2 ^ k ∧ bits .and .i64 a (m : Int) = (A : Int) := by
  have h60 : 2 ^ k ≤ 2 ^ 60 := Nat.pow_le_pow_right (by decide) (by omega)
  have hp : 0 < 2 ^ k := Nat.two_pow_pos k
  refine ⟨(BitVec.ofInt 64 a).toNat &&& m, ?_, ?_⟩
  · rw [hm]; exact Nat.lt_of_le_of_lt Nat.and_le_right (by omega)
  · have hle : (BitVec.ofInt 64 a).toNat &&& m ≤ m := Nat.and_le_right
    have e : (BitVec.ofInt 64 (m : Int)).toNat = m := by
      rw [BitVec.ofInt_natCast, BitVec.toNat_ofNat]; exact Nat.mod_eq_of_lt (by omega)
    show IntKind.i64.wrap ((BitVec.ofInt 64 a &&& BitVec.ofInt 64 (m : Int)).toNat : Int) = _
    rw [BitVec.toNat_and, e]
    generalize (BitVec.ofInt 64 a).toNat &&& m = z at *
    simp only [IntKind.wrap, IntKind.bits, IntKind.signed]; simp; omega
attribute [local go_sem] run_store_flt
set_option maxRecDepth 20000 in
set_option maxHeartbeats 4000000 in
theorem numbers06_any (a b m n : Int) (w : World) (hw : Words w) :
    Calls Tryz.prog 6 #[.int .i64 a, .int .i64 b, .agg #[.int .i64 m, .int .i64 n]] w fun e w' => e = .returned (.bool true) ∧ Below w.heap.size w w' := by
  have HW := Lib.hid hw; clear hw
  obtain ⟨A, hA, ea⟩ := and_small a 3 7 rfl (by decide)
  obtain ⟨B, hB, eb⟩ := and_small b 3 7 rfl (by decide)
  obtain ⟨P, hP, em⟩ := and_small m 8 255 rfl (by decide)
  obtain ⟨Q, hQ, en⟩ := and_small n 8 255 rfl (by decide)
  replace ea : bits .and .i64 a 7 = (A : Int) := ea
  replace eb : bits .and .i64 b 7 = (B : Int) := eb
  replace em : bits .and .i64 m 255 = (P : Int) := em
  replace en : bits .and .i64 n 255 = (Q : Int) := en
  go_enter Tryz.func6, Tryz.ntmps6
  go_wp2_with (first | (go_at_call 11; refine (fit_any _ (HW.out.below (by repeat (first | assumption | exact balloc _ _ | exact balloc2 _ _ _ | refine btrans ?_ (by assumption) | refine btrans ?_ (balloc _ _))))).mono ?_; rintro e w2 ⟨rfl, hb1⟩; obtain ⟨hc1, hf1⟩ := bcell hb1; have hsz : w.heap.size < w2.heap.size := size1 hb1) | fail)
  have hpp : ((P : Int) % 6) = ((P % 6 : Nat) : Int) := by omega
  have hqq : ((Q : Int) % 6) = ((Q % 6 : Nat) : Int) := by omega
  have hp6 : P % 6 < 6 := Nat.mod_lt _ (by decide)
  have hq6 : Q % 6 < 6 := Nat.mod_lt _ (by decide)
  rw [hpp, hqq]
  have hla := num_at A B (P % 6) (Q % 6) hA hB hp6 hq6
  have hfa := fnum_lt A hA
  have hfb := fnum_lt B hB
  have efa : floatOfInt FloatKind.f64 (A : Int) = fnum (A : Int) := rfl
  have efb : floatOfInt FloatKind.f64 (B : Int) = fnum (B : Int) := rfl
  rw [efa, efb]
  clear efa efb ea eb em en hpp hqq
  generalize P % 6 = p at *
  generalize Q % 6 = q at *
  generalize fnum (A : Int) = fa at *
  generalize fnum (B : Int) = fb at *
  have hi (w : World) : Calls Tryz.prog 25 #[cond [97] p 1 0 fa [] false, cond [97] q 1 0 fb [] false] w fun e w' => e = .returned (.bool (upTo (numC p fa) (numC q fb) 21)) ∧ Below w.heap.size w w' :=
    (implies_any [97] p 1 0 fa [] false [97] q 1 0 fb [] false w (by omega) (by omega) hfa hfb).mono fun _ _ ⟨h1, h2⟩ => ⟨by rw [h1]; exact ret_bool hla, h2⟩
  have HI := Lib.hid hi
  clear hi hla hfa hfb hA hB hP hQ hp6 hq6
  have hb3 := btrans (btrans (balloc _ _) hb1) (balloc2 w2 (.cells #[.string ⟨#[97]⟩, .int .i64 p, .int .i64 1, .int .i64 0, .float .f64 fa, .string ⟨#[]⟩, .bool false] 26) (.cells #[.string ⟨#[97]⟩, .int .i64 q, .int .i64 1, .int .i64 0, .float .f64 fb, .string ⟨#[]⟩, .bool false] 26))
  generalize hA3 : World.alloc (World.alloc w2 _) _ = W3 at hb3
  clear hc1 hf1 hsz hb1
  go_loopw [9, 10] (fun al i wr => ∃ (kk : Nat) (z : Int), kk ≤ 21 ∧ z = (kk : Int) - 2 ∧ i = .int .i64 z ∧ al = .bool (upTo (numC p fa) (numC q fb) kk) ∧ Below W3.heap.size W3 wr) (fun _ i _ => (19 - intOf i).toNat)
  case atStart => exact ⟨0, -2, by omega, by omega, rfl, rfl, by first | exact Below.refl _ _ | (rw [hA3]; exact Below.refl _ _)⟩
  case round =>
    obtain ⟨kk, z, hk, hz, rfl, rfl, hbr⟩ := hrel
    have hbw := btrans hb3 hbr
    subst hA3
    obtain ⟨hc1, hf1⟩ := bcell hbr
    have hsz := size2 hbr
    have hsz0 : w2.heap.size < wr.heap.size := by omega
    by_cases hlt : kk < 21
    · have i1 : z ≤ 18 := by omega
      have hd := vnum_at kk hlt
      have hs := upTo_succ (numC p fa) (numC q fb) kk
      have hru (w : World) : (binOp .quo 22 (.float .f64 (floatOfInt .f64 z)) (.float .f64 4611686018427387904)).run Tryz.prog w = .ok (.float .f64 (vnum kk)) w := by
        have hd' : FloatKind.f64.format.div (floatOfInt .f64 z) 4611686018427387904 = some (vnum kk) := by rw [hz]; exact hd
        simp [binOp, Op.floatArith, hd']
      generalize upTo (numC p fa) (numC q fb) kk = u0 at *
      generalize hx : holdsB (numC p fa) (numV (vnum kk)) = bx at hs
      generalize hy : holdsB (numC q fb) (numV (vnum kk)) = bY at hs
      have EX : Hid (holdsB ⟨[97], p, ⟨1, 0, fa, [], false⟩⟩ ⟨1, 0, vnum kk, [], false⟩ = bx) := Lib.hid hx
      have EY : Hid (holdsB ⟨[97], q, ⟨1, 0, fb, [], false⟩⟩ ⟨1, 0, vnum kk, [], false⟩ = bY) := Lib.hid hy
      have HS := Lib.hid hs
      have HZ := Lib.hid hz
      have z0 : -2 ≤ z := by omega
      clear hx hy hs hd hbw hz
      cases u0 <;> cases bx
      all_goals
        go_wp2_with (first | (go_at_call 16; refine (holds_any _ _ _ _ _ _ _ _ _ _ _ _ _).mono ?_; rintro e w2 ⟨rfl, hb2⟩; (first | rw [EX.out] | rw [EY.out]); (first | (replace hb1 := btrans hb1 hb2; clear hb2 hc1 hf1; obtain ⟨hc1, hf1⟩ := bcell hb1) | (have hb1 := hb2; clear hb2; obtain ⟨hc1, hf1⟩ := bcell hb1))) | fail)
        exact ⟨⟨kk + 1, z + 1, by omega, by have := HZ.out; omega, by go_num, by rw [HS.out]; simp, by repeat (first | assumption | exact balloc _ _ | exact balloc2 _ _ _ | refine btrans ?_ (by assumption) | refine btrans ?_ (balloc _ _))⟩, by simp [intOf]; go_num⟩
    · have i1 : ¬ z ≤ 18 := by omega
      obtain rfl : kk = 21 := by omega
      generalize upTo (numC p fa) (numC q fb) 21 = u0 at *
      go_wp2_with (first | (go_at_call 25; refine (HI.out _).mono ?_; rintro e w2 ⟨rfl, hb2⟩; (first | (replace hb1 := btrans hb1 hb2; clear hb2 hc1 hf1; obtain ⟨hc1, hf1⟩ := bcell hb1) | (have hb1 := hb2; clear hb2; obtain ⟨hc1, hf1⟩ := bcell hb1))) | fail)
      go_ret
      exact ⟨ret_bool (by simp), by repeat (first | assumption | exact balloc _ _ | exact balloc2 _ _ _ | refine btrans ?_ (by assumption) | refine btrans ?_ (balloc _ _))⟩
set_option maxRecDepth 100000 in
theorem numbers06_lifted (os : Os) (started : os.Started) (H : Type) (enc : TypeId × Value → H) :
    ReturnsInHanded {} Tryz.checked os 6 .any (fun w args => (Rows.condNumbersSpec.pre enc Tryz.prog Tryz.f6 Rows.condNumbersRow.domain false w args ∧ laidMetH Tryz.prog Rows.condNumbersRow.laid w) ∧ sizedMet enc Tryz.prog Tryz.f6 (OpenSpec.ofChange Rows.condNumbersSpec) false w args)
      (Rows.condNumbersSpec.post enc Tryz.prog Tryz.f6 false true false false) := by
  refine returnsInHanded_of_change_and (C := Tryz.checked) (X := fun w _ => laidMetH Tryz.prog Rows.condNumbersRow.laid w) (fun _ _ _ hh h => h.of_heap hh) Frame.own started (by kernel_rfl) Tryz.func6
    (ChangeSpec.witness_shaped (enc := enc) (C := Tryz.checked) (os := os) (X := fun w _ => laidMetH Tryz.prog Rows.condNumbersRow.laid w) false (World.laidAll Tryz.prog os Rows.condNumbersRow.laid) #[.int .i64 0, .int .i64 0, .agg #[.int .i64 0, .int .i64 0]] 8 (World.laidAll_os _ _ _)
      (World.shaped_of_ZipB (by kernel_rfl) (by kernel_rfl)) (by kernel_rfl) (by kernel_rfl) (by kernel_rfl)
      (by rw [MakeChecks.laidMetH_plain _ _ _ (by kernel_rfl)]; exact laidMet_laidAll _ (by kernel_rfl) (by kernel_rfl))) ?_
  intro W base args ds gs before hval0 hW _ hsz0 hL _
  have hsz : (DataW.weightsEach Tryz.prog (Tryz.f6.params.toList ++ Rows.condNumbersSpec.plain.varTypes Tryz.prog) (ds ++ gs)).all (· ≤ reachBytes) = true := hsz0
  have hval : ∀ (j : Nat) t v, Tryz.f6.params[j]? = some t → args[j]? = some v → Value.okWide Tryz.prog W .any base t v := hval0
  have hW' := hW
  obtain ⟨p, q, hA0, hV, rfl, hfz, hnd⟩ := hW
  have hA : DataW.TrodAll enc Tryz.prog W 0 (fun _ => true) true Tryz.f6.params.toList args.toList ds p := hA0
  rw [Tryz.params6] at hA hval hsz
  obtain ⟨v0, vs0, d0, ds0, p0, q0, hargs, rfl, rfl, h0, r0⟩ := trodAll_cons hA
  obtain ⟨v1, vs1, d1, ds1, p1, q1, rfl, rfl, rfl, h1, r1⟩ := trodAll_cons r0
  obtain ⟨v2, vs2, d2, ds2, p2, q2, rfl, rfl, rfl, h2, r2⟩ := trodAll_cons r1
  obtain ⟨rfl, rfl, rfl⟩ := trodAll_nil r2
  obtain rfl : args = #[v0, v1, v2] := by cases args; simp_all
  obtain ⟨rfl, rfl⟩ := trodVars_none hV
  obtain ⟨a, rfl, rfl, rfl, wa⟩ := open_int Tryz.underlying3 (hval 0 3 v0 rfl rfl) h0
  obtain ⟨b, rfl, rfl, rfl, wb⟩ := open_int Tryz.underlying3 (hval 1 3 v1 rfl rfl) h1
  obtain ⟨mc, nc, rfl⟩ := open_arr2 (hval 2 41 v2 rfl rfl) h2
  clear hA0 hval0 hsz hsz0
  refine (numbers06_any a b mc nc W (words_ofNumbers hL)).mono fun e W' ⟨he, hw⟩ => ?_
  subst he
  exact ⟨_, rfl, Frame.law_post Frame.laidOut (by kernel_rfl) rfl (by kernel_rfl) Tryz.underlying4 rfl rfl rfl hW' hw⟩

theorem numbers06_said : Rows.CondNumbersSaid :=
  OpenClaim.holds_of_wide 6 Tryz.f6 rfl rfl rfl rfl rfl rfl rfl ⟨rfl, rfl, rfl, rfl, rfl⟩ rfl rfl rfl rfl rfl (by kernel_rfl) Tryz.func6 (by kernel_rfl)
    (of_decide_eq_true (by kernel_rfl)) (by unfold Func.isWrapper; first | (rw [if_pos (by decide +kernel)]; kernel_rfl) | (rw [if_neg (by decide +kernel)]; exact ⟨rfl, rfl⟩))
    (fun os started H enc _ => numbers06_lifted os started H enc)
theorem numbers06_plain (f : FuncId) (fn : Func) (hf : Tryz.pinned.checked.prog.funcNamed "gazette/gazettelaw06.CondNumbers" = some f) (hfn : Tryz.pinned.checked.prog.funcs[f]? = some fn) :
    false = Tryz.pinned.checked.prog.looks [] ∧ ∀ (j : Nat) t, fn.params[j]? = some t → Tryz.pinned.checked.prog.wantsStandIn t = false := by
  obtain rfl : f = 6 := Option.some.inj ((show Tryz.prog.funcNamed "gazette/gazettelaw06.CondNumbers" = some 6 by kernel_rfl).symm.trans hf) |>.symm
  obtain rfl : fn = Tryz.f6 := (Option.some.inj (Tryz.func6.symm.trans hfn)).symm
  refine ⟨by kernel_rfl, fun j t ht => ?_⟩
  rw [Tryz.params6] at ht
  have hm : t ∈ [3, 3, 41] := by simpa using Array.mem_of_getElem? ht
  have hall : ([3, 3, 41].all fun u => !Tryz.prog.wantsStandIn u) = true := by kernel_rfl
  exact (show Tryz.prog.wantsStandIn t = false by simpa using List.all_eq_true.1 hall t hm)
theorem numbers06_holds : Rows.CondNumbersCardSaid :=
  Claim7.holds_tied_plain_at .later [] _ _ _ _ numbers06_said (fun _ h => by cases h) (by kernel_rfl) (fun _ h => by cases h) condNumbers_row_tie rfl ⟨rfl, rfl⟩ (by kernel_rfl) rfl numbers06_plain (by kernel_rfl)
end Go.Proofs.YtjddkbgnndefaaaGreatDoor.Val
