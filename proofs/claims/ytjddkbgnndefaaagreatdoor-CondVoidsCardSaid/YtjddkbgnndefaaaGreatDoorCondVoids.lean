/- The statement CondVoids is proved: a condition is void, if no value does, because it may not be held against its own. -/
import Derived.Test.YtjddkbgnndefaaaGreatDoorFrameC
import Derived.Test.YtjddkbgnndefaaaGreatDoorOpenS
import Derived.Test.YtjddkbgnndefaaaGreatDoorLaid
import Derived.Test.YtjddkbgnndefaaaGreatDoorImpl
import Derived.Test.YtjddkbgnndefaaaGreatDoorCanon
namespace Go.Proofs.YtjddkbgnndefaaaGreatDoor.Val
open Go.RowKit Go.ChangeShapes Go.WideShapes Go.ChangeAt Flt
theorem words_ofVoids {W : World} (h : laidMetH Tryz.prog Rows.condVoidsRow.laid W) : Words W := fun i hi =>
  Laid.strs (name := "gazette/cond.words") (zs := [[61], [33, 61], [60], [60, 61], [62], [62, 61], [94], [104, 97, 115]]) (by kernel_rfl) (by kernel_rfl) (by kernel_rfl) Tryz.underlying63 Tryz.underlying9 (by kernel_rfl) (by kernel_rfl) (by kernel_rfl) h i hi
attribute [local go_sem] run_store_flt Ord.ford_ne_self
theorem void_ways (op k : Int) (x : Nat) : (op = 7) ∨ (op = 6 ∧ ((k = 1 ∧ nan x = true) ∨ (k = 1 ∧ nan x = false) ∨ (k = 2) ∨ ((k == 1) = false ∧ (k != 2) = true))) ∨ (¬ op = 7 ∧ (op == 6) = false ∧ ((k = 1 ∧ nan x = true) ∨ (k = 1 ∧ nan x = false) ∨ (k == 1) = false)) := by
  by_cases h7 : op = 7
  · exact Or.inl h7
  · by_cases h6 : op = 6
    · right; left; refine ⟨h6, ?_⟩
      by_cases h1 : k = 1
      · cases nan x <;> simp [h1]
      · by_cases h2 : k = 2 <;> simp [h1, h2]
    · right; right; refine ⟨h7, by simpa using h6, ?_⟩
      by_cases h1 : k = 1
      · cases nan x <;> simp [h1]
      · simp [h1]
theorem cright_kind {c : C} (h : cRight c = true) : 0 ≤ c.op ∧ c.op ≤ 7 ∧ 0 ≤ c.val.kind ∧ c.val.kind ≤ 3 := by
  unfold cRight vRight at h
  simp only [Bool.and_eq_true, decide_eq_true_eq] at h
  exact ⟨h.1.1.2, h.1.2, h.2.1.1, h.2.1.2⟩
set_option maxRecDepth 20000 in
set_option maxHeartbeats 4000000 in
theorem voids06_any (nm : List UInt8) (op k n : Int) (x : Nat) (t : List UInt8) (y : Bool) (sv : Value) (l : List V) (w : World) (hw : Words w) (hs : Open.Vals w sv l)
    (hn : nm.length ≤ 140737488351232) (ht : t.length ≤ 140737488351232) (hx : x < 18446744073709551616) :
    Calls Tryz.prog 9 #[cond nm op k n x t y, sv] w fun e w' => e = .returned (.bool true) ∧ Below w.heap.size w w' := by
  have HW := Lib.hid hw; clear hw
  have hli (w : World) := light_any nm op k n x t y w hn ht
  have hri (w : World) := cright_any nm op k n x t y w hn ht
  have hni (w : World) := ccanon_any nm op k n x t y w
  have hcv := canonC_void ⟨nm, op, k, n, x, t, y⟩
  have hvh := void_holds ⟨nm, op, k, n, x, t, y⟩
  have hkk := @cright_kind ⟨nm, op, k, n, x, t, y⟩
  have hii (a0 : 0 ≤ op) (a7 : op ≤ 7) (hv : cvoidB ⟨nm, op, k, n, x, t, y⟩ = true) (w : World) : Calls Tryz.prog 25 #[cond nm op k n x t y, cond nm 2 0 0 0 [] false] w fun e w' => e = .returned (.bool true) ∧ Below w.heap.size w w' :=
    (implies_any nm op k n x t y nm 2 0 0 0 [] false w a0 a7 hx (by decide)).mono fun _ _ ⟨h1, h2⟩ => ⟨by rw [h1]; unfold impliesB; rw [hv]; simp, h2⟩
  have hvx : cvoidB ⟨nm, op, k, n, x, t, y⟩ = ((op != 7 && (k == 1 && nan x)) || (op == 6 && k != 2)) := rfl
  obtain ⟨a0, cap, rfl, hl1, hl2, hat⟩ := hs
  have hlm : l.length ≤ 9223372036854775807 := by unfold maxLen at hl2; omega
  clear hl1 hl2 hn ht hx
  generalize hea : cvoidB ⟨nm, op, k, n, x, t, y⟩ = vd at *
  generalize heb : cvoidB (canonC ⟨nm, op, k, n, x, t, y⟩) = vc at *
  generalize canonC ⟨nm, op, k, n, x, t, y⟩ = cn at *
  obtain ⟨nm', op', k', n', x', t', y'⟩ := cn
  generalize decide (nm.length + t.length ≤ 300) = lb at *
  generalize cRight ⟨nm, op, k, n, x, t, y⟩ = rb at *
  have hlw : decide (30 < (l.length : Int)) = true ∨ decide (30 < (l.length : Int)) = false := by cases decide (30 < (l.length : Int)) <;> simp
  have hway : (lb = false) ∨ (lb = true ∧ decide (30 < (l.length : Int)) = true) ∨ (lb = true ∧ decide (30 < (l.length : Int)) = false ∧ rb = false) ∨ (lb = true ∧ decide (30 < (l.length : Int)) = false ∧ rb = true) := by
    rcases hlw with h | h <;> cases lb <;> cases rb <;> simp [h]
  clear hlw
  have HN := Lib.hid hni; have EA := Lib.hid hea; have EB := Lib.hid heb; have HAT := Lib.hid hat
  clear hni hea heb hat
  rcases hway with rfl | ⟨rfl, s1⟩ | ⟨rfl, s1, rfl⟩ | ⟨rfl, s1, rfl⟩
  rotate_right
  · have HL := Lib.hid hli; have HR := Lib.hid hri
    obtain ⟨k1, k2, k3, k4⟩ := hkk rfl
    have hvc : vc = vd := hcv k3 k4
    have hI := hii k1 k2
    clear hli hri hkk hcv hii k1 k2 k3 k4
    subst hvc
    have hww := void_ways op k x
    have HH : Hid (vc = true → ∀ v, holdsB ⟨nm, op, k, n, x, t, y⟩ v = false) := Lib.hid (fun h v => hvh v h)
    have HJ := Lib.hid hI
    clear hvh hI
    rcases hww with rfl | ⟨rfl, ⟨rfl, h1⟩ | ⟨rfl, h1⟩ | rfl | ⟨h1, h2⟩⟩ | ⟨h7, h6, ⟨rfl, h1⟩ | ⟨rfl, h1⟩ | h1⟩
    all_goals
      first
      | (have hvt : vc = true := by rw [hvx]; simp [*]
         subst hvt
         have EH := Lib.hid (HH.out rfl)
         have HI := Lib.hid (HJ.out rfl)
         clear HH HJ hvx)
      | (have hvt : vc = false := by rw [hvx]; simp [*]
         subst hvt
         have EH : Hid True := Lib.hid trivial
         have HI : Hid True := Lib.hid trivial
         clear HH HJ hvx)
    all_goals
      skip
      go_enter Tryz.func9, Tryz.ntmps9
      go_wp2_with (first | (go_at_call 11; refine (fit_any _ (HW.out.below (by repeat (first | assumption | exact balloc _ _ | exact balloc2 _ _ _ | refine btrans ?_ (by assumption) | refine btrans ?_ (balloc _ _))))).mono ?_; rintro e w2 ⟨rfl, hb2⟩; (first | (replace hb1 := btrans hb1 hb2; clear hb2 hc1 hf1; obtain ⟨hc1, hf1⟩ := bcell hb1) | (have hb1 := hb2; clear hb2; obtain ⟨hc1, hf1⟩ := bcell hb1))) | (go_at_call 12; refine (HL.out _).mono ?_; rintro e w2 ⟨rfl, hb2⟩; (first | (replace hb1 := btrans hb1 hb2; clear hb2 hc1 hf1; obtain ⟨hc1, hf1⟩ := bcell hb1) | (have hb1 := hb2; clear hb2; obtain ⟨hc1, hf1⟩ := bcell hb1))) | (go_at_call 15; refine (HR.out _).mono ?_; rintro e w2 ⟨rfl, hb2⟩; (first | (replace hb1 := btrans hb1 hb2; clear hb2 hc1 hf1; obtain ⟨hc1, hf1⟩ := bcell hb1) | (have hb1 := hb2; clear hb2; obtain ⟨hc1, hf1⟩ := bcell hb1))) | (go_at_call 18; refine (cvoid_any _ _ _ _ _ _ _ _).mono ?_; rintro e w2 ⟨rfl, hb2⟩; (first | rw [EA.out] | rw [EB.out]); (first | (replace hb1 := btrans hb1 hb2; clear hb2 hc1 hf1; obtain ⟨hc1, hf1⟩ := bcell hb1) | (have hb1 := hb2; clear hb2; obtain ⟨hc1, hf1⟩ := bcell hb1))) | (go_at_call 21; refine (HN.out _).mono ?_; rintro e w2 ⟨rfl, hb2⟩; (first | (replace hb1 := btrans hb1 hb2; clear hb2 hc1 hf1; obtain ⟨hc1, hf1⟩ := bcell hb1) | (have hb1 := hb2; clear hb2; obtain ⟨hc1, hf1⟩ := bcell hb1))) | fail)
      generalize hA : World.alloc w _ = A at hb1
      go_loopw [65] (fun i wr => ∃ kk : Nat, kk ≤ l.length ∧ i = .int .i64 kk ∧ Below A.heap.size A wr) (fun i _ => l.length - (intOf i).toNat)
      case atStart => exact ⟨0, Nat.zero_le _, rfl, hb1⟩
      case round =>
        obtain ⟨kk, hk, rfl, hbr⟩ := hrel
        subst hA
        clear hc1 hf1 hb1
        obtain ⟨hc1, hf1⟩ := bcell hbr
        by_cases hlt : kk < l.length
        · obtain ⟨a, rfl, v0, v1, v2, v3, v4⟩ := HAT.out kk hlt
          have hbw := btrans (balloc _ _) hbr
          replace v0 := (hbw.cell (World.block_lt_of_cell? _ _ v0)).trans v0
          replace v1 := (hbw.cell (World.block_lt_of_cell? _ _ v1)).trans v1
          replace v2 := (hbw.cell (World.block_lt_of_cell? _ _ v2)).trans v2
          replace v3 := (hbw.cell (World.block_lt_of_cell? _ _ v3)).trans v3
          replace v4 := (hbw.cell (World.block_lt_of_cell? _ _ v4)).trans v4
          have i1 : (kk : Int) < (l.length : Int) := by omega
          have i0 : (0 : Int) ≤ (kk : Int) := by omega
          clear hbw
          have hsz : w.heap.size < wr.heap.size := size1 hbr
          go_wp2_with (first | (go_at_call 16; refine (holds_any _ _ _ _ _ _ _ _ _ _ _ _ _).mono ?_; rintro e w2 ⟨rfl, hb2⟩; rw [EH.out]; (first | (replace hb1 := btrans hb1 hb2; clear hb2 hc1 hf1; obtain ⟨hc1, hf1⟩ := bcell hb1) | (have hb1 := hb2; clear hb2; obtain ⟨hc1, hf1⟩ := bcell hb1))) | fail)
          case roundEnd => exact ⟨⟨kk + 1, by omega, by go_num, by repeat (first | assumption | exact balloc _ _ | exact balloc2 _ _ _ | refine btrans ?_ (by assumption) | refine btrans ?_ (balloc _ _))⟩, by simp [intOf]; go_num⟩
          all_goals
            go_ret
            exact ⟨rfl, by repeat (first | assumption | exact balloc _ _ | exact balloc2 _ _ _ | refine btrans ?_ (by assumption) | refine btrans ?_ (balloc _ _))⟩
        · have i1 : ¬ (kk : Int) < (l.length : Int) := by omega
          go_wp2_with (first | (go_at_call 25; refine (HI.out _).mono ?_; rintro e w2 ⟨rfl, hb2⟩; (first | (replace hb1 := btrans hb1 hb2; clear hb2 hc1 hf1; obtain ⟨hc1, hf1⟩ := bcell hb1) | (have hb1 := hb2; clear hb2; obtain ⟨hc1, hf1⟩ := bcell hb1))) | fail)
          go_ret
          exact ⟨rfl, by repeat (first | assumption | exact balloc _ _ | exact balloc2 _ _ _ | refine btrans ?_ (by assumption) | refine btrans ?_ (balloc _ _))⟩
  all_goals
    have HL := Lib.hid hli; have HR := Lib.hid hri
    clear hli hri hkk hcv hii hvh hvx
    go_enter Tryz.func9, Tryz.ntmps9
    go_wp2_with (first | (go_at_call 11; refine (fit_any _ (HW.out.below (by repeat (first | assumption | exact balloc _ _ | exact balloc2 _ _ _ | refine btrans ?_ (by assumption) | refine btrans ?_ (balloc _ _))))).mono ?_; rintro e w2 ⟨rfl, hb2⟩; (first | (replace hb1 := btrans hb1 hb2; clear hb2 hc1 hf1; obtain ⟨hc1, hf1⟩ := bcell hb1) | (have hb1 := hb2; clear hb2; obtain ⟨hc1, hf1⟩ := bcell hb1))) | (go_at_call 12; refine (HL.out _).mono ?_; rintro e w2 ⟨rfl, hb2⟩; (first | (replace hb1 := btrans hb1 hb2; clear hb2 hc1 hf1; obtain ⟨hc1, hf1⟩ := bcell hb1) | (have hb1 := hb2; clear hb2; obtain ⟨hc1, hf1⟩ := bcell hb1))) | (go_at_call 15; refine (HR.out _).mono ?_; rintro e w2 ⟨rfl, hb2⟩; (first | (replace hb1 := btrans hb1 hb2; clear hb2 hc1 hf1; obtain ⟨hc1, hf1⟩ := bcell hb1) | (have hb1 := hb2; clear hb2; obtain ⟨hc1, hf1⟩ := bcell hb1))) | fail)
    go_ret
    exact ⟨rfl, by repeat (first | assumption | exact balloc _ _ | exact balloc2 _ _ _ | refine btrans ?_ (by assumption) | refine btrans ?_ (balloc _ _))⟩
set_option maxRecDepth 100000 in
theorem voids06_lifted (os : Os) (started : os.Started) (H : Type) (enc : TypeId × Value → H) :
    ReturnsInHanded {} Tryz.checked os 9 .any (fun w args => (Rows.condVoidsSpec.pre enc Tryz.prog Tryz.f9 Rows.condVoidsRow.domain false w args ∧ laidMetH Tryz.prog Rows.condVoidsRow.laid w) ∧ sizedMet enc Tryz.prog Tryz.f9 (OpenSpec.ofChange Rows.condVoidsSpec) false w args)
      (Rows.condVoidsSpec.post enc Tryz.prog Tryz.f9 false true false false) := by
  refine returnsInHanded_of_change_and (C := Tryz.checked) (X := fun w _ => laidMetH Tryz.prog Rows.condVoidsRow.laid w) (fun _ _ _ hh h => h.of_heap hh) Frame.own started (by kernel_rfl) Tryz.func9
    (ChangeSpec.witness_shaped (enc := enc) (C := Tryz.checked) (os := os) (X := fun w _ => laidMetH Tryz.prog Rows.condVoidsRow.laid w) false (World.laidAll Tryz.prog os Rows.condVoidsRow.laid) #[.agg #[.string .empty, .int .i64 0, .int .i64 0, .int .i64 0, .float .f64 0, .string .empty, .bool false], .slice none 0 0] 8 (World.laidAll_os _ _ _)
      (World.shaped_of_ZipB (by kernel_rfl) (by kernel_rfl)) (by kernel_rfl) (by kernel_rfl) (by kernel_rfl)
      (by rw [MakeChecks.laidMetH_plain _ _ _ (by kernel_rfl)]; exact laidMet_laidAll _ (by kernel_rfl) (by kernel_rfl))) ?_
  intro W base args ds gs before hval0 hW _ hsz0 hL _
  have hsz : (DataW.weightsEach Tryz.prog (Tryz.f9.params.toList ++ Rows.condVoidsSpec.plain.varTypes Tryz.prog) (ds ++ gs)).all (· ≤ reachBytes) = true := hsz0
  have hval : ∀ (j : Nat) t v, Tryz.f9.params[j]? = some t → args[j]? = some v → Value.okWide Tryz.prog W .any base t v := hval0
  have hW' := hW
  obtain ⟨p, q, hA0, hV, rfl, hfz, hnd⟩ := hW
  have hA : DataW.TrodAll enc Tryz.prog W 0 (fun _ => true) true Tryz.f9.params.toList args.toList ds p := hA0
  rw [Tryz.params9] at hA hval hsz
  obtain ⟨v0, vs0, d0, ds0, p0, q0, hargs, rfl, rfl, h0, r0⟩ := trodAll_cons hA
  obtain ⟨v1, vs1, d1, ds1, p1, q1, rfl, rfl, rfl, h1, r1⟩ := trodAll_cons r0
  obtain ⟨rfl, rfl, rfl⟩ := trodAll_nil r1
  obtain rfl : args = #[v0, v1] := by cases args; simp_all
  obtain ⟨rfl, rfl⟩ := trodVars_none hV
  obtain ⟨ma, oa, ka, ia, xa, ta, ya, rfl, wa⟩ := Open.open_cond (hval 0 26 v0 rfl rfl) h0 (Open.reach_of hsz (j := 0) (t := 26) rfl rfl)
  obtain ⟨lb, sb, wb⟩ := Open.open_vals (hval 1 43 v1 rfl rfl) h1 (Open.reach_of hsz (j := 1) (t := 43) rfl rfl)
  clear hA0 hval0 hsz hsz0
  refine (voids06_any ma oa ka ia xa ta ya v1 lb W (words_ofVoids hL) sb wa.1 wa.2.2.2.2.2 wa.2.2.2.2.1).mono fun e W' ⟨he, hw⟩ => ?_
  subst he
  exact ⟨_, rfl, Frame.law_post Frame.laidOut (by kernel_rfl) rfl (by kernel_rfl) Tryz.underlying4 rfl rfl rfl hW' hw⟩

theorem voids06_said : Rows.CondVoidsSaid :=
  OpenClaim.holds_of_wide 9 Tryz.f9 rfl rfl rfl rfl rfl rfl rfl ⟨rfl, rfl, rfl, rfl, rfl⟩ rfl rfl rfl rfl rfl (by kernel_rfl) Tryz.func9 (by kernel_rfl)
    (of_decide_eq_true (by kernel_rfl)) (by unfold Func.isWrapper; first | (rw [if_pos (by decide +kernel)]; kernel_rfl) | (rw [if_neg (by decide +kernel)]; exact ⟨rfl, rfl⟩))
    (fun os started H enc _ => voids06_lifted os started H enc)
theorem voids06_plain (f : FuncId) (fn : Func) (hf : Tryz.pinned.checked.prog.funcNamed "gazette/gazettelaw06.CondVoids" = some f) (hfn : Tryz.pinned.checked.prog.funcs[f]? = some fn) :
    false = Tryz.pinned.checked.prog.looks [] ∧ ∀ (j : Nat) t, fn.params[j]? = some t → Tryz.pinned.checked.prog.wantsStandIn t = false := by
  obtain rfl : f = 9 := Option.some.inj ((show Tryz.prog.funcNamed "gazette/gazettelaw06.CondVoids" = some 9 by kernel_rfl).symm.trans hf) |>.symm
  obtain rfl : fn = Tryz.f9 := (Option.some.inj (Tryz.func9.symm.trans hfn)).symm
  refine ⟨by kernel_rfl, fun j t ht => ?_⟩
  rw [Tryz.params9] at ht
  have hm : t ∈ [26, 43] := by simpa using Array.mem_of_getElem? ht
  have hall : ([26, 43].all fun u => !Tryz.prog.wantsStandIn u) = true := by kernel_rfl
  exact (show Tryz.prog.wantsStandIn t = false by simpa using List.all_eq_true.1 hall t hm)
theorem voids06_holds : Rows.CondVoidsCardSaid :=
  Claim7.holds_tied_plain_at .later [] _ _ _ _ voids06_said (fun _ h => by cases h) (by kernel_rfl) (fun _ h => by cases h) condVoids_row_tie rfl ⟨rfl, rfl⟩ (by kernel_rfl) rfl voids06_plain (by kernel_rfl)
end Go.Proofs.YtjddkbgnndefaaaGreatDoor.Val
