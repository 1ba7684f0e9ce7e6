/- The statement ScopeRights is proved: for every text the law returns true. Conditions: none beyond the given row's own. -/
import Derived.Test.YtpmgooefkkbpbaaScLaw
import Derived.Test.YtpmgooefkkbpbaaScParts
namespace Go.Proofs.Ytpmgooefkkbpbaa.Sc
open Go.RowKit Go.ChangeShapes Go.WideShapes Go.ChangeAt
/-- the row's cells, read by place -/
theorem own_shape {w : World} {base : Nat} {e : TypeId} {v : Value} {n : Nat} {xs : List Value} (h : w.ownsRow base e 1 v n xs) (hn : 0 < n) :
    ∃ g cap, v = .slice (some ⟨g, 0, none⟩) n cap ∧ base ≤ g ∧ g < w.heap.size ∧ ∀ j u, xs[j]? = some u → w.cell? ⟨g, j, none⟩ = some u := by
  rcases h.2 with ⟨_, h0⟩ | ⟨g, cap, cur, rfl, hb, hg, h1, h2, h3, h4⟩
  · omega
  · refine ⟨g, cap, rfl, hb, (Array.getElem?_eq_some_iff.1 hg).1, fun j u hu => ?_⟩
    have hlt : j < n * 1 := by
      have := (List.getElem?_eq_some_iff.1 hu).1; rw [h.1] at this; exact this
    have hh : ((⟨g, 0, none⟩ : Addr).add j) = ⟨g, j, none⟩ := by simp [Addr.add]; exact fun h => h.symm
    have := h.cells (g := g) rfl j u hu
    rw [hh] at this; exact this
/-- the law's round: behind k names -/
def WantRel (l : List UInt8) (want i : Value) : Prop := ∃ k : Nat, k ≤ (parts l).length ∧ i = .int .i64 k ∧ want = .bool (decide ((parts l).length ≤ 4) && ((parts l).take k).all nameB)
theorem take_all (ps : List (List UInt8)) (k : Nat) (h : k < ps.length) : (ps.take (k + 1)).all nameB = ((ps.take k).all nameB && nameB ps[k]) := by
  rw [List.take_succ_eq_append_getElem h]; simp only [List.all_append, List.all_cons, List.all_nil, Bool.and_true]
set_option maxHeartbeats 1000000 in
theorem rights_any (l : List UInt8) (w : World) (hl : l.length ≤ 140737488351232) :
    Calls Try.prog 3 #[.string ⟨l.toArray⟩] w fun e w' => e = .returned (.bool true) ∧ Below w.heap.size w w' := by
  by_cases hs : l.length ≤ 200
  · have s1 : decide (200 < (l.length : Int)) = false := by rw [decide_eq_false_iff_not]; omega
    have hpa (w : World) := parts_any ⟨l.toArray⟩ w (by show l.length ≤ _; omega)
    have HPA := Lib.hid hpa; clear hpa
    go_enter Try.func3, Try.ntmps3
    go_wp2_with fail
    refine (fit_any _).mono ?_
    rintro e w' ⟨rfl, ⟨n1, rfl⟩⟩
    go_wp2_with fail
    refine (HPA.out _).mono ?_
    rintro e w1 ⟨v, rfl, hown, hb⟩
    have hpos : 0 < (parts l).length := List.length_pos_iff.2 (parts_ne l)
    obtain ⟨g, cap, rfl, hbg, hgl, hc⟩ := own_shape hown hpos
    have hplen := parts_length l
    have HC := Lib.hid hc; clear hown HPA hc
    go_wp2
    go_loop [4, 19] (fun want i => WantRel l want i) (fun _ i => (parts l).length - (intOf i).toNat)
    case atStart => exact ⟨0, Nat.zero_le _, rfl, by simp; omega⟩
    case round =>
      obtain ⟨k, hk, rfl, rfl⟩ := hrel
      by_cases hlt : k < (parts l).length
      · have hck := HC.out k (str (parts l)[k]) (by simp [List.getElem?_eq_getElem hlt])
        have hpk : (parts l)[k].length ≤ l.length := parts_bound l _ (List.getElem_mem hlt)
        have hta := take_all (parts l) k hlt
        have HTA := Lib.hid hta; clear hta
        unfold str at hck
        generalize (parts l)[k] = p at *
        cases hb1 : (decide ((parts l).length ≤ 4) && ((parts l).take k).all nameB)
        all_goals
          go_wp2_with (go_at_call 10; refine (name_l _ _ (by omega)).mono ?_; rintro e w' ⟨rfl, rfl⟩)
        · exact ⟨⟨k + 1, by omega, by go_num, by rw [HTA.out, ← Bool.and_assoc, hb1]; rfl⟩, by simp [intOf]; omega⟩
        · exact ⟨⟨k + 1, by omega, by go_num, by rw [HTA.out, ← Bool.and_assoc, hb1]; rfl⟩, by simp [intOf]; omega⟩
      · obtain rfl : k = (parts l).length := by omega
        have hfin : (rightB l == ((decide ((parts l).length ≤ 4) && ((parts l).take (parts l).length).all nameB) || l.isEmpty)) = true := by
          unfold rightB; rw [List.take_length]
          cases l.isEmpty <;> cases (parts l).all nameB <;> cases decide ((parts l).length ≤ 4) <;> rfl
        have HF := Lib.hid hfin; clear hfin hlt
        cases hb1 : (decide ((parts l).length ≤ 4) && ((parts l).take (parts l).length).all nameB)
        all_goals
          cases he : l.isEmpty
        all_goals
          rw [hb1, he] at HF
          go_wp2_with (go_at_call 11; refine (right_l _ _ (by omega)).mono ?_; rintro e w' ⟨rfl, ⟨_, rfl⟩⟩)
          go_ret
          exact ⟨ret_bool (by have h := HF.out; revert h; cases rightB l <;> simp), ((Drawn.below ⟨n1, rfl⟩ _).trans hb).trans (Drawn.below ⟨_, rfl⟩ _)⟩
  · have s1 : decide (200 < (l.length : Int)) = true := by rw [decide_eq_true_iff]; omega
    go_enter Try.func3, Try.ntmps3
    go_wp2_with (go_at_call 8; refine (fit_any _).mono ?_; rintro e w' ⟨rfl, ⟨_, rfl⟩⟩)
    go_ret
    exact ⟨rfl, Drawn.below ⟨_, rfl⟩ _⟩
set_option maxRecDepth 100000 in
theorem rights_lifted (os : Os) (started : os.Started) (H : Type) (enc : TypeId × Value → H) :
    ReturnsInHanded {} Try.checked os 3 .any (Rows.scopeRightsSpec.pre6 enc Try.prog Try.f3 Rows.scopeRightsRow.domain false) (Rows.scopeRightsSpec.post enc Try.prog Try.f3 false true false false) := by
  refine returnsInHanded_of_change_sized (C := Try.checked) Frame.own started (by kernel_rfl) Try.func3
    (ChangeSpec.witness6 (enc := enc) (C := Try.checked) false ⟨#[], #[.string .empty], []⟩ 8 (by kernel_rfl) (by kernel_rfl) (by kernel_rfl) (by kernel_rfl)) ?_
  intro W base args ds gs before hval0 hW _ hsz0 _
  have hsz : (DataW.weightsEach Try.prog (Try.f3.params.toList ++ Rows.scopeRightsSpec.plain.varTypes Try.prog) (ds ++ gs)).all (· ≤ reachBytes) = true := hsz0
  have hval : ∀ (j : Nat) t v, Try.f3.params[j]? = some t → args[j]? = some v → Value.okWide Try.prog W .any base t v := hval0
  have hW' := hW
  obtain ⟨p, q, hA0, hV, rfl, hfz, hnd⟩ := hW
  have hA : DataW.TrodAll enc Try.prog W 0 (fun _ => true) true Try.f3.params.toList args.toList ds p := hA0
  rw [Try.params3] at hA hval hsz
  obtain ⟨v0, vs0, d0, ds0, p0, q0, hargs, rfl, rfl, h0, r0⟩ := trodAll_cons hA
  obtain ⟨rfl, rfl, rfl⟩ := trodAll_nil r0
  obtain rfl : args = #[v0] := by cases args; simp_all
  obtain ⟨rfl, rfl⟩ := trodVars_none hV
  obtain ⟨a, rfl, rfl, rfl, wa⟩ := Go.ChangeMaps.open_string Try.underlying9 (hval 0 9 v0 rfl rfl) h0
  have za : a.data.toList.length ≤ 140737488351232 := sized_string hsz (j := 0) (t := 9) rfl rfl
  clear hA0 hval0 hsz hsz0
  refine (rights_any a.data.toList W za).mono fun e W' ⟨he, hw⟩ => ?_
  subst he
  exact ⟨_, rfl, Frame.law_post Frame.laidOut (by kernel_rfl) rfl (by kernel_rfl) Try.underlying4 rfl rfl rfl hW' hw⟩

theorem rights_holds : Rows.ScopeRightsSaid :=
  OpenClaim.holds_of_wide 3 Try.f3 rfl rfl rfl rfl rfl rfl rfl ⟨rfl, rfl, rfl, rfl, rfl⟩ rfl rfl rfl rfl rfl (by kernel_rfl) Try.func3 (by kernel_rfl)
    (of_decide_eq_true (by kernel_rfl)) (by unfold Func.isWrapper; first | (rw [if_pos (by decide +kernel)]; kernel_rfl) | (rw [if_neg (by decide +kernel)]; exact ⟨rfl, rfl⟩))
    (fun os started H enc _ => rights_lifted os started H enc)
end Go.Proofs.Ytpmgooefkkbpbaa.Sc
