/- The statement ScopeUnders is proved: for every two texts the law returns true. Conditions: none beyond the given row's own. -/
import Derived.Test.YtpmgooefkkbpbaaScopeRights
import Derived.BigQuiet
import Derived.Deep.QuietTactic
namespace Go.Proofs.Ytpmgooefkkbpbaa.Sc
open Go.RowKit Go.ChangeShapes Go.WideShapes Go.ChangeAt
/-- the law's round: behind k names -/
def SameRel (s t : List UInt8) (w2 : World) (want i : Value) (wr : World) : Prop := ∃ k : Nat, k ≤ min (parts s).length (parts t).length ∧ i = .int .i64 k ∧ Drawn w2 wr ∧
  want = .bool (t.isEmpty || (decide ((parts t).length ≤ (parts s).length) && ((parts s).take k == (parts t).take k)))
theorem take_same {p q : List (List UInt8)} {k : Nat} (h1 : k < p.length) (h2 : k < q.length) : (p.take (k + 1) == q.take (k + 1)) = ((p.take k == q.take k) && (p[k] == q[k])) := by
  rw [List.take_succ_eq_append_getElem h1, List.take_succ_eq_append_getElem h2, Bool.eq_iff_iff, Bool.and_eq_true, beq_iff_eq, beq_iff_eq, beq_iff_eq]
  constructor
  · intro h
    have hl : (p.take k).length = (q.take k).length := by rw [List.length_take, List.length_take]; omega
    have := List.append_inj h hl
    exact ⟨this.1, (List.cons.inj this.2).1⟩
  · rintro ⟨e1, e2⟩; rw [e1, e2]
theorem want_step {e d x y b : Bool} (h : (e || (d && x)) = b) : (e || (d && (x && y))) = (b && (e || y)) := by
  subst h; cases e <;> cases d <;> cases x <;> cases y <;> rfl
theorem want_fin (s t : List UInt8) : (t.isEmpty || (decide ((parts t).length ≤ (parts s).length) && ((parts s).take (min (parts s).length (parts t).length) == (parts t).take (min (parts s).length (parts t).length)))) = underB s t := by
  cases ht : t.isEmpty
  · rw [under_parts s t ht]
    by_cases h : (parts t).length ≤ (parts s).length
    · rw [Nat.min_eq_right h, List.take_length]; simp
    · simp [h]
  · unfold underB; rw [ht]; rfl
set_option maxHeartbeats 1000000 in
theorem unders_any (s t : List UInt8) (w : World) (hls : s.length ≤ 140737488351232) (hlt : t.length ≤ 140737488351232) :
    Calls Try.prog 4 #[.string ⟨s.toArray⟩, .string ⟨t.toArray⟩] w fun e w' => e = .returned (.bool true) ∧ Below w.heap.size w w' := by
  have ways : (200 < s.length) ∨ (s.length ≤ 200 ∧ 200 < t.length) ∨ (s.length ≤ 200 ∧ t.length ≤ 200 ∧ rightB s = false) ∨ (s.length ≤ 200 ∧ t.length ≤ 200 ∧ rightB s = true ∧ rightB t = false) ∨ (s.length ≤ 200 ∧ t.length ≤ 200 ∧ rightB s = true ∧ rightB t = true) := by
    by_cases h1 : s.length ≤ 200 <;> by_cases h2 : t.length ≤ 200 <;> cases rightB s <;> cases rightB t <;> simp <;> omega
  rcases ways with h1 | ⟨h1, h2⟩ | ⟨h1, h2, r1⟩ | ⟨h1, h2, r1, r2⟩ | ⟨h1, h2, r1, r2⟩
  rotate_right
  · have hps (w : World) := parts_any ⟨s.toArray⟩ w (by show s.length ≤ _; omega)
    have hpt (w : World) := parts_any ⟨t.toArray⟩ w (by show t.length ≤ _; omega)
    have HPS := Lib.hid hps; have HPT := Lib.hid hpt; clear hps hpt
    have s1 : decide (200 < (s.length : Int)) = false := by rw [decide_eq_false_iff_not]; omega
    have s2 : decide (200 < (t.length : Int)) = false := by rw [decide_eq_false_iff_not]; omega
    go_enter Try.func4, Try.ntmps4
    go_wp2_with (first | (go_at_call 8; refine (fit_any _).mono ?_; rintro e w' ⟨rfl, ⟨_, rfl⟩⟩) | (go_at_call 11; refine (right_l _ _ (by omega)).mono ?_; rintro e w' ⟨rfl, ⟨_, rfl⟩⟩))
    generalize hw0 : w.drewN _ = w0
    have HW0 : Hid (Drawn w w0) := Lib.hid ⟨_, hw0.symm⟩
    clear hw0
    refine (HPS.out _).mono ?_
    rintro e w1 ⟨v, rfl, hown1, hb1⟩
    go_wp2_with fail
    refine (HPT.out _).mono ?_
    rintro e w2 ⟨v2, rfl, hown2, hb2⟩
    obtain ⟨g1, cap1, rfl, hbg1, hgl1, hc1⟩ := own_shape hown1 (List.length_pos_iff.2 (parts_ne s))
    obtain ⟨g2, cap2, rfl, hbg2, hgl2, hc2⟩ := own_shape hown2 (List.length_pos_iff.2 (parts_ne t))
    have hd1 : ∀ j u, ((parts s).map str)[j]? = some u → w2.cell? ⟨g1, j, none⟩ = some u := fun j u h => by
      rw [hb2.cell (p := ⟨g1, j, none⟩) hgl1]; exact hc1 j u h
    have HC1 := Lib.hid hd1; have HC2 := Lib.hid hc2
    have HB : Hid (Below w.heap.size w w2) := Lib.hid (by
      have hz := (HW0.out.below w.heap.size).size
      exact ((HW0.out.below _).trans (hb1.mono hz)).trans (hb2.mono (Nat.le_trans hz hb1.size)))
    have np := parts_length s
    have nq := parts_length t
    clear hown1 hown2 hc1 hc2 hd1 hb1 hb2 hbg1 hbg2 hgl1 hgl2 HPS HPT HW0
    cases ht : t.isEmpty
    all_goals
      go_wp2
      go_loopw [7, 47] (fun want i wr => SameRel s t w2 want i wr) (fun _ i _ => min (parts s).length (parts t).length - (intOf i).toNat)
      case atStart => exact ⟨0, Nat.zero_le _, rfl, Drawn.refl _, by rw [ht]; simp⟩
      case round =>
        obtain ⟨k, hk, rfl, ⟨nd, rfl⟩, rfl⟩ := hrel
        by_cases hlt : k < min (parts s).length (parts t).length
        · have k1 : k < (parts s).length := by omega
          have k2 : k < (parts t).length := by omega
          have hck1 := HC1.out k (str (parts s)[k]) (by simp [List.getElem?_eq_getElem k1])
          have hck2 := HC2.out k (str (parts t)[k]) (by simp [List.getElem?_eq_getElem k2])
          have hta := take_same k1 k2
          have HTA := Lib.hid hta; clear hta
          unfold str at hck1 hck2
          generalize (parts s)[k] = p at *
          generalize (parts t)[k] = q at *
          have i1 : (0 : Int) ≤ (k : Int) := by omega
          have i2 : (k : Int) < ((parts s).length : Int) := by omega
          have i3 : (k : Int) < ((parts t).length : Int) := by omega
          cases hb1 : (t.isEmpty || (decide ((parts t).length ≤ (parts s).length) && ((parts s).take k == (parts t).take k)))
          all_goals
            go_wp2
            go_quiet (fail)
            go_wp2
            first
              | exact ⟨⟨k + 1, by omega, by go_num, ⟨_, rfl⟩, congrArg _ (by rw [HTA.out, want_step hb1, ht]; rfl)⟩, by simp [intOf]; omega⟩
              | (rw [ht] at hb1; cases hb1)
        · obtain rfl : k = min (parts s).length (parts t).length := by omega
          have hfin : (t.isEmpty || (decide ((parts t).length ≤ (parts s).length) && ((parts s).take (min (parts s).length (parts t).length) == (parts t).take (min (parts s).length (parts t).length)))) = underB s t := want_fin s t
          have u2 : underB s s = true := by unfold underB; simp
          have u3 : underB s [] = true := rfl
          rw [hfin]; clear hfin hlt hk
          go_wp2_with (go_at_call 12; refine (under_l _ _ _ (by first | omega | decide) (by first | omega | decide)).mono ?_; rintro e w' ⟨rfl, rfl⟩)
          go_ret
          exact ⟨rfl, HB.out.trans (Drawn.below ⟨_, rfl⟩ _)⟩
  all_goals
    go_enter Try.func4, Try.ntmps4
    go_wp2_with (first | (go_at_call 8; refine (fit_any _).mono ?_; rintro e w' ⟨rfl, ⟨_, rfl⟩⟩) | (go_at_call 11; refine (right_l _ _ (by omega)).mono ?_; rintro e w' ⟨rfl, ⟨_, rfl⟩⟩))
    go_ret
    exact ⟨rfl, Drawn.below ⟨_, rfl⟩ _⟩
set_option maxRecDepth 100000 in
theorem unders_lifted (os : Os) (started : os.Started) (H : Type) (enc : TypeId × Value → H) :
    ReturnsInHanded {} Try.checked os 4 .any (Rows.scopeUndersSpec.pre6 enc Try.prog Try.f4 Rows.scopeUndersRow.domain false) (Rows.scopeUndersSpec.post enc Try.prog Try.f4 false true false false) := by
  refine returnsInHanded_of_change_sized (C := Try.checked) Frame.own started (by kernel_rfl) Try.func4
    (ChangeSpec.witness6 (enc := enc) (C := Try.checked) false ⟨#[], #[.string .empty, .string .empty], []⟩ 8 (by kernel_rfl) (by kernel_rfl) (by kernel_rfl) (by kernel_rfl)) ?_
  intro W base args ds gs before hval0 hW _ hsz0 _
  have hsz : (DataW.weightsEach Try.prog (Try.f4.params.toList ++ Rows.scopeUndersSpec.plain.varTypes Try.prog) (ds ++ gs)).all (· ≤ reachBytes) = true := hsz0
  have hval : ∀ (j : Nat) t v, Try.f4.params[j]? = some t → args[j]? = some v → Value.okWide Try.prog W .any base t v := hval0
  have hW' := hW
  obtain ⟨p, q, hA0, hV, rfl, hfz, hnd⟩ := hW
  have hA : DataW.TrodAll enc Try.prog W 0 (fun _ => true) true Try.f4.params.toList args.toList ds p := hA0
  rw [Try.params4] at hA hval hsz
  obtain ⟨v0, vs0, d0, ds0, p0, q0, hargs, rfl, rfl, h0, r0⟩ := trodAll_cons hA
  obtain ⟨v1, vs1, d1, ds1, p1, q1, rfl, rfl, rfl, h1, r1⟩ := trodAll_cons r0
  obtain ⟨rfl, rfl, rfl⟩ := trodAll_nil r1
  obtain rfl : args = #[v0, v1] := by cases args; simp_all
  obtain ⟨rfl, rfl⟩ := trodVars_none hV
  obtain ⟨a, rfl, rfl, rfl, wa⟩ := Go.ChangeMaps.open_string Try.underlying9 (hval 0 9 v0 rfl rfl) h0
  obtain ⟨b, rfl, rfl, rfl, wb⟩ := Go.ChangeMaps.open_string Try.underlying9 (hval 1 9 v1 rfl rfl) h1
  have za : a.data.toList.length ≤ 140737488351232 := sized_string hsz (j := 0) (t := 9) rfl rfl
  have zb : b.data.toList.length ≤ 140737488351232 := sized_string hsz (j := 1) (t := 9) rfl rfl
  clear hA0 hval0 hsz hsz0
  refine (unders_any a.data.toList b.data.toList W za zb).mono fun e W' ⟨he, hw⟩ => ?_
  subst he
  exact ⟨_, rfl, Frame.law_post Frame.laidOut (by kernel_rfl) rfl (by kernel_rfl) Try.underlying4 rfl rfl rfl hW' hw⟩

theorem unders_holds : Rows.ScopeUndersSaid :=
  OpenClaim.holds_of_wide 4 Try.f4 rfl rfl rfl rfl rfl rfl rfl ⟨rfl, rfl, rfl, rfl, rfl⟩ rfl rfl rfl rfl rfl (by kernel_rfl) Try.func4 (by kernel_rfl)
    (of_decide_eq_true (by kernel_rfl)) (by unfold Func.isWrapper; first | (rw [if_pos (by decide +kernel)]; kernel_rfl) | (rw [if_neg (by decide +kernel)]; exact ⟨rfl, rfl⟩))
    (fun os started H enc _ => unders_lifted os started H enc)
end Go.Proofs.Ytpmgooefkkbpbaa.Sc
