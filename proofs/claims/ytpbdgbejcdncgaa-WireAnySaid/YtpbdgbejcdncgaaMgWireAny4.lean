/- MERGED BY A PROGRAM OF MINE (mg.py) out of my own texts, in their order: WAny, OpenB, Frame. -/
import Derived.Test.YtpbdgbejcdncgaaMgWireAny3
import Derived.Test.YtpbdgbejcdncgaaOpenV
import Derived.Test.YtpbdgbejcdncgaaWr4
import Derived.OpenShut
import Derived.ChangeSlices
import Derived.Test.YtpbdgbejcdncgaaRows
import Derived.WalkKit
import Derived.ProofKit
import Derived.OpenVars

section
/- THE WALK OF gazettelaw16.WireAny. -/
namespace Go.Proofs.Ytpbdgbejcdncgaa.Wire
open Go.RowKit Flt Go.Proofs.Ytpbdgbejcdncgaa.Val Go.Lib
attribute [local go_sem] run_store_flt
theorem as_of {W9 w' : World} {pm pr : Nat} {m : M} {r : Pol.R} {a0 : Option Addr} {cap : Nat} {s : List UInt8} (hX : BoxM W9 pm (mcs m)) (hR : BoxM W9 pr (rcs r)) (hcv : ∀ W, Below W9.heap.size W9 W → (convert 22 9 (.slice a0 s.length cap)).run Try.prog W = .ok (.string ⟨s.toArray⟩) W) (hb : Below W9.heap.size W9 w') : (fun w' => w'.cell? ⟨pm, 0, none⟩ = some (.int .i64 m.kind) ∧ w'.cell? ⟨pm, 1, none⟩ = some (.int .i64 m.at_) ∧ w'.cell? ⟨pm, 2, none⟩ = some (.int .i64 m.r.k.kind) ∧ w'.cell? ⟨pm, 3, none⟩ = some (.int .i64 m.r.k.tenant) ∧ w'.cell? ⟨pm, 4, none⟩ = some (.string ⟨m.r.k.who.toArray⟩) ∧ w'.cell? ⟨pm, 5, none⟩ = some (.int .i64 m.r.br) ∧ w'.cell? ⟨pm, 6, none⟩ = some (.string ⟨m.r.sc.toArray⟩) ∧ w'.cell? ⟨pm, 7, none⟩ = some (.slice m.r.c0 m.r.cn m.r.cc) ∧ w'.cell? ⟨pm, 8, none⟩ = some (.string ⟨m.r.nm.toArray⟩) ∧ w'.cell? ⟨pm, 9, none⟩ = some (.int .i64 m.r.k.pl) ∧ w'.cell? ⟨pm, 10, none⟩ = some (.string ⟨m.fs.toArray⟩) ∧ w'.cell? ⟨pm, 11, none⟩ = some (.slice m.f0 m.fn m.fc) ∧ w'.cell? ⟨pm, 12, none⟩ = some (.string ⟨m.es.toArray⟩) ∧ w'.cell? ⟨pm, 13, none⟩ = some (.slice m.e0 m.en m.ec) ∧ w'.cell? ⟨pm, 14, none⟩ = some (.int .i64 m.ver) ∧ w'.cell? ⟨pm, 15, none⟩ = some (.string ⟨m.org.toArray⟩) ∧ w'.cell? ⟨pm, 16, none⟩ = some (.int .i64 m.ser) ∧ w'.cell? ⟨pr, 0, none⟩ = some (.int .i64 r.k.kind) ∧ w'.cell? ⟨pr, 1, none⟩ = some (.int .i64 r.k.tenant) ∧ w'.cell? ⟨pr, 2, none⟩ = some (.string ⟨r.k.who.toArray⟩) ∧ w'.cell? ⟨pr, 3, none⟩ = some (.int .i64 r.br) ∧ w'.cell? ⟨pr, 4, none⟩ = some (.string ⟨r.sc.toArray⟩) ∧ w'.cell? ⟨pr, 5, none⟩ = some (.slice r.c0 r.cn r.cc) ∧ w'.cell? ⟨pr, 6, none⟩ = some (.string ⟨r.nm.toArray⟩) ∧ w'.cell? ⟨pr, 7, none⟩ = some (.int .i64 r.k.pl) ∧ (convert 22 9 (.slice a0 s.length cap)).run Try.prog w' = .ok (.string ⟨s.toArray⟩) w' ∧ Below W9.heap.size W9 w') w' := by
  have x := (hX.below hb).c; have z := (hR.below hb).c
  exact ⟨x 0 (by rw [mcs_size]; decide), x 1 (by rw [mcs_size]; decide), x 2 (by rw [mcs_size]; decide), x 3 (by rw [mcs_size]; decide), x 4 (by rw [mcs_size]; decide), x 5 (by rw [mcs_size]; decide), x 6 (by rw [mcs_size]; decide), x 7 (by rw [mcs_size]; decide), x 8 (by rw [mcs_size]; decide), x 9 (by rw [mcs_size]; decide), x 10 (by rw [mcs_size]; decide), x 11 (by rw [mcs_size]; decide), x 12 (by rw [mcs_size]; decide), x 13 (by rw [mcs_size]; decide), x 14 (by rw [mcs_size]; decide), x 15 (by rw [mcs_size]; decide), x 16 (by rw [mcs_size]; decide), z 0 (by rw [rcs_size]; decide), z 1 (by rw [rcs_size]; decide), z 2 (by rw [rcs_size]; decide), z 3 (by rw [rcs_size]; decide), z 4 (by rw [rcs_size]; decide), z 5 (by rw [rcs_size]; decide), z 6 (by rw [rcs_size]; decide), z 7 (by rw [rcs_size]; decide), hcv _ hb, hb⟩
theorem as_own {W9 w' : World} {pm pr : Nat} {m : M} {r : Pol.R} {a0 : Option Addr} {cap : Nat} {s : List UInt8} (h : (fun w' => w'.cell? ⟨pm, 0, none⟩ = some (.int .i64 m.kind) ∧ w'.cell? ⟨pm, 1, none⟩ = some (.int .i64 m.at_) ∧ w'.cell? ⟨pm, 2, none⟩ = some (.int .i64 m.r.k.kind) ∧ w'.cell? ⟨pm, 3, none⟩ = some (.int .i64 m.r.k.tenant) ∧ w'.cell? ⟨pm, 4, none⟩ = some (.string ⟨m.r.k.who.toArray⟩) ∧ w'.cell? ⟨pm, 5, none⟩ = some (.int .i64 m.r.br) ∧ w'.cell? ⟨pm, 6, none⟩ = some (.string ⟨m.r.sc.toArray⟩) ∧ w'.cell? ⟨pm, 7, none⟩ = some (.slice m.r.c0 m.r.cn m.r.cc) ∧ w'.cell? ⟨pm, 8, none⟩ = some (.string ⟨m.r.nm.toArray⟩) ∧ w'.cell? ⟨pm, 9, none⟩ = some (.int .i64 m.r.k.pl) ∧ w'.cell? ⟨pm, 10, none⟩ = some (.string ⟨m.fs.toArray⟩) ∧ w'.cell? ⟨pm, 11, none⟩ = some (.slice m.f0 m.fn m.fc) ∧ w'.cell? ⟨pm, 12, none⟩ = some (.string ⟨m.es.toArray⟩) ∧ w'.cell? ⟨pm, 13, none⟩ = some (.slice m.e0 m.en m.ec) ∧ w'.cell? ⟨pm, 14, none⟩ = some (.int .i64 m.ver) ∧ w'.cell? ⟨pm, 15, none⟩ = some (.string ⟨m.org.toArray⟩) ∧ w'.cell? ⟨pm, 16, none⟩ = some (.int .i64 m.ser) ∧ w'.cell? ⟨pr, 0, none⟩ = some (.int .i64 r.k.kind) ∧ w'.cell? ⟨pr, 1, none⟩ = some (.int .i64 r.k.tenant) ∧ w'.cell? ⟨pr, 2, none⟩ = some (.string ⟨r.k.who.toArray⟩) ∧ w'.cell? ⟨pr, 3, none⟩ = some (.int .i64 r.br) ∧ w'.cell? ⟨pr, 4, none⟩ = some (.string ⟨r.sc.toArray⟩) ∧ w'.cell? ⟨pr, 5, none⟩ = some (.slice r.c0 r.cn r.cc) ∧ w'.cell? ⟨pr, 6, none⟩ = some (.string ⟨r.nm.toArray⟩) ∧ w'.cell? ⟨pr, 7, none⟩ = some (.int .i64 r.k.pl) ∧ (convert 22 9 (.slice a0 s.length cap)).run Try.prog w' = .ok (.string ⟨s.toArray⟩) w' ∧ Below W9.heap.size W9 w') w') : Below W9.heap.size W9 w' := h.2.2.2.2.2.2.2.2.2.2.2.2.2.2.2.2.2.2.2.2.2.2.2.2.2.2
set_option maxRecDepth 20000 in
set_option maxHeartbeats 4000000 in
theorem wany_any (a0 : Option Addr) (cap : Nat) (s : List UInt8) (w : World) (hby : BytesAt w a0 s) (hcap : s.length ≤ cap) (hcm : cap ≤ maxLen) (hn : a0 = none → cap = 0) :
    Calls Try.prog 3 #[.slice a0 s.length cap] w fun e w' => e = .returned (.bool true) ∧ Below w.heap.size w w' := by
  have hne : a0 = none → s = [] ∧ cap = 0 := fun e => ⟨List.eq_nil_of_length_eq_zero (by have := hn e; omega), hn e⟩
  have hrm : ∀ W, Below w.heap.size w W → Calls Try.prog 6 #[.slice a0 s.length cap] W fun e w' => MsgP W s e w' := fun W hW => readmsg_any a0 cap s W (hby.below hW) hcap hcm hn
  have hrr : ∀ W, Below w.heap.size w W → Calls Try.prog 7 #[.slice a0 s.length cap] W fun e w' => RuleP W s e w' := fun W hW => readrule_any a0 cap s W (hby.below hW) hcap hcm hn
  have HRM := Lib.hid hrm; have HRR := Lib.hid hrr; have HBY := Lib.hid hby; have HN0 := Lib.hid hne
  clear hrm hrr hby hn hne
  go_enter Try.func3, Try.ntmps3
  go_wp2_with fail
  refine (fit16_any _).mono ?_; rintro e w1 ⟨rfl, hbn⟩
  have HB1 := Lib.hid hbn; clear hbn
  by_cases h15 : s.length ≤ 1500
  rotate_left
  · have d1 : (1500 : Int) < (s.length : Int) := by omega
    go_wp2_with fail
    go_ret
    exact ⟨rfl, HB1.out⟩
  have d1 : ¬ (1500 : Int) < (s.length : Int) := by omega
  go_upto_region 6 with (first | (go_at_call 6; (with_reducible refine (HRM.out _ HB1.out).mono ?_); rintro e w2 h2; obtain ⟨m, ok, rfl, hok, hno, hb2⟩ := msg_one h2; clear h2) | fail)
  have hm3 := boxm_new w2 (mcs m) 33 (by rw [mcs_size]; decide)
  have hb3 := balloc w2 (.cells (mcs m) 33)
  generalize World.alloc w2 _ = W3 at *
  have HB3 := Lib.hid (btrans HB1.out (hb2.trans (hb3.mono hb2.size)))
  have hok3 : ok = true → Tells 0 W3 m s [] := fun h => ((hok h).below hb3).mono (Nat.zero_le _)
  clear hok hb2 hb3
  generalize w2.heap.size = pm at *
  have HM3 := Lib.hid hm3
  have HOK := Lib.hid hok3; have HNO := Lib.hid hno
  clear hm3 hno hok3
  go_upto_region 7 with (first | (go_at_call 7; (with_reducible refine (HRR.out _ HB3.out).mono ?_); rintro e w4 h4; obtain ⟨r, is_, rfl, hr, hb4⟩ := rule_one h4; clear h4) | fail)
  have hr5 := boxm_new w4 (rcs r) 28 (by rw [rcs_size]; decide)
  have hb5 := balloc w4 (.cells (rcs r) 28)
  have hb35 : Below W3.heap.size W3 (w4.alloc (.cells (rcs r) 28)) := hb4.trans (hb5.mono hb4.size)
  generalize World.alloc w4 _ = W9 at *
  have HX9 := Lib.hid (HM3.out.below hb35)
  have HB9 := Lib.hid (btrans HB3.out hb35)
  have hcv : ∀ W, Below W9.heap.size W9 W → (convert 22 9 (.slice a0 s.length cap)).run Try.prog W = .ok (.string ⟨s.toArray⟩) W := fun W hW => conv_by (HBY.out.below (btrans HB9.out hW)) HN0.out
  have HCV := Lib.hid hcv
  have hmsg : ok = true → s ≠ [] ∧ ∀ W, Below W9.heap.size W9 W → Calls Try.prog 8 #[.agg (mcs m)] W fun e w' => Lays W s e w' := fun h => ⟨tells_ne (HOK.out h), fun W hW => msg_back m 0 W s (((HOK.out h).below hb35).below hW) h15⟩
  have hrul : is_ = true → s ≠ [] ∧ (∀ W, Below W9.heap.size W9 W → Calls Try.prog 9 #[.agg (rcs r)] W fun e w' => Lays W s e w') ∧ ∀ W, Below W9.heap.size W9 W → Calls Try.prog 10 #[.agg (rcs r)] W fun e w' => e = .returned (.bool true) ∧ Below W.heap.size W w' := fun h => by
    obtain ⟨d, c0, cp, rfl, h1, h2, h3⟩ := hr h
    refine ⟨ruleis_ne h1, fun W hW => rule_back h1 ((h3.below hb5).below hW) h15, fun W hW => ?_⟩
    have h4 := rule_right (cap := cp) h1 ((h3.below hb5).below hW)
    rw [h2] at h4
    exact h4
  clear hr hb5 hb4
  generalize w4.heap.size = pr at *
  have HR9 := Lib.hid hr5
  have HMS := Lib.hid hmsg; have HRU := Lib.hid hrul
  clear hr5 hb35 hcv hmsg hrul HM3 HB3 HOK HBY HN0 HRM HRR HB1
  cases ok <;> cases is_
  · as_aux_lemma =>
    obtain ⟨k1, k2, k3⟩ := HNO.out rfl
    clear HMS HRU HNO
    refine wp_region_held_drew (S := (fun w' => w'.cell? ⟨pm, 0, none⟩ = some (.int .i64 m.kind) ∧ w'.cell? ⟨pm, 1, none⟩ = some (.int .i64 m.at_) ∧ w'.cell? ⟨pm, 2, none⟩ = some (.int .i64 m.r.k.kind) ∧ w'.cell? ⟨pm, 3, none⟩ = some (.int .i64 m.r.k.tenant) ∧ w'.cell? ⟨pm, 4, none⟩ = some (.string ⟨m.r.k.who.toArray⟩) ∧ w'.cell? ⟨pm, 5, none⟩ = some (.int .i64 m.r.br) ∧ w'.cell? ⟨pm, 6, none⟩ = some (.string ⟨m.r.sc.toArray⟩) ∧ w'.cell? ⟨pm, 7, none⟩ = some (.slice m.r.c0 m.r.cn m.r.cc) ∧ w'.cell? ⟨pm, 8, none⟩ = some (.string ⟨m.r.nm.toArray⟩) ∧ w'.cell? ⟨pm, 9, none⟩ = some (.int .i64 m.r.k.pl) ∧ w'.cell? ⟨pm, 10, none⟩ = some (.string ⟨m.fs.toArray⟩) ∧ w'.cell? ⟨pm, 11, none⟩ = some (.slice m.f0 m.fn m.fc) ∧ w'.cell? ⟨pm, 12, none⟩ = some (.string ⟨m.es.toArray⟩) ∧ w'.cell? ⟨pm, 13, none⟩ = some (.slice m.e0 m.en m.ec) ∧ w'.cell? ⟨pm, 14, none⟩ = some (.int .i64 m.ver) ∧ w'.cell? ⟨pm, 15, none⟩ = some (.string ⟨m.org.toArray⟩) ∧ w'.cell? ⟨pm, 16, none⟩ = some (.int .i64 m.ser) ∧ w'.cell? ⟨pr, 0, none⟩ = some (.int .i64 r.k.kind) ∧ w'.cell? ⟨pr, 1, none⟩ = some (.int .i64 r.k.tenant) ∧ w'.cell? ⟨pr, 2, none⟩ = some (.string ⟨r.k.who.toArray⟩) ∧ w'.cell? ⟨pr, 3, none⟩ = some (.int .i64 r.br) ∧ w'.cell? ⟨pr, 4, none⟩ = some (.string ⟨r.sc.toArray⟩) ∧ w'.cell? ⟨pr, 5, none⟩ = some (.slice r.c0 r.cn r.cc) ∧ w'.cell? ⟨pr, 6, none⟩ = some (.string ⟨r.nm.toArray⟩) ∧ w'.cell? ⟨pr, 7, none⟩ = some (.int .i64 r.k.pl) ∧ (convert 22 9 (.slice a0 s.length cap)).run Try.prog w' = .ok (.string ⟨s.toArray⟩) w' ∧ Below W9.heap.size W9 w')) (by kernel_rfl) ?_ (fun hq0 => ?_)
    · ((try dsimp only); (first | exact as_of HX9.out HR9.out HCV.out (bdrewN (Below.refl _ _) 1) | assumption | exact as_of HX9.out HR9.out HCV.out (btrans (as_own (by assumption)) (by assumption))))
    (refine wpAnyH_take (i := 0) (oi := ?_) (v := ?_) ?_ (by kernel_rfl) (by kernel_rfl) (by kernel_rfl) ?_ (Or.inl ⟨?_, ?_⟩) (by assumption) ?_; rotate_left 2; (· (simp only [List.getElem?_toArray, List.getElem?_cons_zero]; first | done | rfl)); (· exact (fun _ _ _ h => h)); (· rfl); (· (intro w hSw; (try dsimp only at hSw); go_simp; (try with_reducible rfl))))
    (try simp only [Act.put, List.setIfInBounds_toArray, List.set_cons_zero, List.set_cons_succ])
    (refine wpAnyH_take (i := 1) (oi := ?_) (v := ?_) ?_ (by kernel_rfl) (by kernel_rfl) (by kernel_rfl) ?_ (Or.inl ⟨?_, ?_⟩) (by assumption) ?_; rotate_left 2; (· (simp only [List.getElem?_toArray, List.getElem?_cons_succ, List.getElem?_cons_zero]; first | done | rfl)); (· exact (fun _ _ _ h => h)); (· rfl); (· (intro w hSw; (try dsimp only at hSw); go_simp; (try with_reducible rfl))))
    (try simp only [Act.put, List.setIfInBounds_toArray, List.set_cons_zero, List.set_cons_succ])
    (refine wpAnyH_take (i := 2) (oi := ?_) (v := ?_) ?_ (by kernel_rfl) (by kernel_rfl) (by kernel_rfl) ?_ (Or.inr ⟨?_, ?_⟩) (by assumption) ?_; rotate_left 2; (· (simp only [List.getElem?_toArray, List.getElem?_cons_succ, List.getElem?_cons_zero]; first | done | rfl)); (· exact (fun _ _ _ h => h)); (· rfl); (· rfl))
    (try simp only [Act.put, List.setIfInBounds_toArray, List.set_cons_zero, List.set_cons_succ])
    (refine wpAnyH_take (i := 3) (oi := ?_) (v := ?_) ?_ (by kernel_rfl) (by kernel_rfl) (by kernel_rfl) ?_ (Or.inr ⟨?_, ?_⟩) (by assumption) ?_; rotate_left 2; (· (simp only [List.getElem?_toArray, List.getElem?_cons_succ, List.getElem?_cons_zero]; first | done | rfl)); (· exact (fun _ _ _ h => h)); (· rfl); (· rfl))
    (try simp only [Act.put, List.setIfInBounds_toArray, List.set_cons_zero, List.set_cons_succ])
    (refine wpAnyH_take (i := 4) (oi := ?_) (v := ?_) ?_ (by kernel_rfl) (by kernel_rfl) (by kernel_rfl) ?_ (Or.inr ⟨?_, ?_⟩) (by assumption) ?_; rotate_left 2; (· (simp only [List.getElem?_toArray, List.getElem?_cons_succ, List.getElem?_cons_zero]; first | done | rfl)); (· exact (fun _ _ _ h => h)); (· rfl); (· rfl))
    (try simp only [Act.put, List.setIfInBounds_toArray, List.set_cons_zero, List.set_cons_succ])
    (refine wpAnyH_take (i := 5) (oi := ?_) (v := ?_) ?_ (by kernel_rfl) (by kernel_rfl) (by kernel_rfl) ?_ (Or.inr ⟨?_, ?_⟩) (by assumption) ?_; rotate_left 2; (· (simp only [List.getElem?_toArray, List.getElem?_cons_succ, List.getElem?_cons_zero]; first | done | rfl)); (· exact (fun _ _ _ h => h)); (· rfl); (· rfl))
    (try simp only [Act.put, List.setIfInBounds_toArray, List.set_cons_zero, List.set_cons_succ])
    (refine wpAnyH_take (i := 6) (oi := ?_) (v := ?_) ?_ (by kernel_rfl) (by kernel_rfl) (by kernel_rfl) ?_ (Or.inr ⟨?_, ?_⟩) (by assumption) ?_; rotate_left 2; (· (simp only [List.getElem?_toArray, List.getElem?_cons_succ, List.getElem?_cons_zero]; first | done | rfl)); (· exact (fun _ _ _ h => h)); (· rfl); (· rfl))
    (try simp only [Act.put, List.setIfInBounds_toArray, List.set_cons_zero, List.set_cons_succ])
    (refine wpAnyH_take (i := 7) (oi := ?_) (v := ?_) ?_ (by kernel_rfl) (by kernel_rfl) (by kernel_rfl) ?_ (Or.inr ⟨?_, ?_⟩) (by assumption) ?_; rotate_left 2; (· (simp only [List.getElem?_toArray, List.getElem?_cons_succ, List.getElem?_cons_zero]; first | done | rfl)); (· exact (fun _ _ _ h => h)); (· rfl); (· rfl))
    (try simp only [Act.put, List.setIfInBounds_toArray, List.set_cons_zero, List.set_cons_succ])
    (refine wpAnyH_take (i := 8) (oi := ?_) (v := ?_) ?_ (by kernel_rfl) (by kernel_rfl) (by kernel_rfl) ?_ (Or.inl ⟨?_, ?_⟩) (by assumption) ?_; rotate_left 2; (· (simp only [List.getElem?_toArray, List.getElem?_cons_succ, List.getElem?_cons_zero]; first | done | rfl)); (· exact (fun _ _ _ h => h)); (· rfl); (· (intro w hSw; (try dsimp only at hSw); go_simp; (try with_reducible rfl))))
    (try simp only [Act.put, List.setIfInBounds_toArray, List.set_cons_zero, List.set_cons_succ])
    (refine wpAnyH_take (i := 9) (oi := ?_) (v := ?_) ?_ (by kernel_rfl) (by kernel_rfl) (by kernel_rfl) ?_ (Or.inl ⟨?_, ?_⟩) (by assumption) ?_; rotate_left 2; (· (simp only [List.getElem?_toArray, List.getElem?_cons_succ, List.getElem?_cons_zero]; first | done | rfl)); (· exact (fun _ _ _ h => h)); (· rfl); (· (intro w hSw; (try dsimp only at hSw); go_simp; (try with_reducible rfl))))
    (try simp only [Act.put, List.setIfInBounds_toArray, List.set_cons_zero, List.set_cons_succ])
    (refine wpAnyH_take (i := 10) (oi := ?_) (v := ?_) ?_ (by kernel_rfl) (by kernel_rfl) (by kernel_rfl) ?_ (Or.inl ⟨?_, ?_⟩) (by assumption) ?_; rotate_left 2; (· (simp only [List.getElem?_toArray, List.getElem?_cons_succ, List.getElem?_cons_zero]; first | done | rfl)); (· exact (fun _ _ _ h => h)); (· rfl); (· (intro w hSw; (try dsimp only at hSw); go_simp; (try with_reducible rfl))))
    (try simp only [Act.put, List.setIfInBounds_toArray, List.set_cons_zero, List.set_cons_succ])
    (refine wpAnyH_take (i := 11) (oi := ?_) (v := ?_) ?_ (by kernel_rfl) (by kernel_rfl) (by kernel_rfl) ?_ (Or.inl ⟨?_, ?_⟩) (by assumption) ?_; rotate_left 2; (· (simp only [List.getElem?_toArray, List.getElem?_cons_succ, List.getElem?_cons_zero]; first | done | rfl)); (· exact (fun _ _ _ h => h)); (· rfl); (· (intro w hSw; (try dsimp only at hSw); go_simp; (try with_reducible rfl))))
    (try simp only [Act.put, List.setIfInBounds_toArray, List.set_cons_zero, List.set_cons_succ])
    (refine wpAnyH_take (i := 12) (oi := ?_) (v := ?_) ?_ (by kernel_rfl) (by kernel_rfl) (by kernel_rfl) ?_ (Or.inr ⟨?_, ?_⟩) (by assumption) ?_; rotate_left 2; (· (simp only [List.getElem?_toArray, List.getElem?_cons_succ, List.getElem?_cons_zero]; first | done | rfl)); (· exact (fun _ _ _ h => h)); (· rfl); (· rfl))
    (try simp only [Act.put, List.setIfInBounds_toArray, List.set_cons_zero, List.set_cons_succ])
    (refine wpAnyH_take (i := 13) (oi := ?_) (v := ?_) ?_ (by kernel_rfl) (by kernel_rfl) (by kernel_rfl) ?_ (Or.inr ⟨?_, ?_⟩) (by assumption) ?_; rotate_left 2; (· (simp only [List.getElem?_toArray, List.getElem?_cons_succ, List.getElem?_cons_zero]; first | done | rfl)); (· exact (fun _ _ _ h => h)); (· rfl); (· rfl))
    (try simp only [Act.put, List.setIfInBounds_toArray, List.set_cons_zero, List.set_cons_succ])
    (refine wpAnyH_take (i := 14) (oi := ?_) (v := ?_) ?_ (by kernel_rfl) (by kernel_rfl) (by kernel_rfl) ?_ (Or.inr ⟨?_, ?_⟩) (by assumption) ?_; rotate_left 2; (· (simp only [List.getElem?_toArray, List.getElem?_cons_succ, List.getElem?_cons_zero]; first | done | rfl)); (· exact (fun _ _ _ h => h)); (· rfl); (· rfl))
    (try simp only [Act.put, List.setIfInBounds_toArray, List.set_cons_zero, List.set_cons_succ])
    (refine wpAnyH_take (i := 15) (oi := ?_) (v := ?_) ?_ (by kernel_rfl) (by kernel_rfl) (by kernel_rfl) ?_ (Or.inr ⟨?_, ?_⟩) (by assumption) ?_; rotate_left 2; (· (simp only [List.getElem?_toArray, List.getElem?_cons_succ, List.getElem?_cons_zero]; first | done | rfl)); (· exact (fun _ _ _ h => h)); (· rfl); (· rfl))
    (try simp only [Act.put, List.setIfInBounds_toArray, List.set_cons_zero, List.set_cons_succ])
    (refine wpAnyH_take (i := 16) (oi := ?_) (v := ?_) ?_ (by kernel_rfl) (by kernel_rfl) (by kernel_rfl) ?_ (Or.inr ⟨?_, ?_⟩) (by assumption) ?_; rotate_left 2; (· (simp only [List.getElem?_toArray, List.getElem?_cons_succ, List.getElem?_cons_zero]; first | done | rfl)); (· exact (fun _ _ _ h => h)); (· rfl); (· rfl))
    (try simp only [Act.put, List.setIfInBounds_toArray, List.set_cons_zero, List.set_cons_succ])
    (refine wpAnyH_take (i := 17) (oi := ?_) (v := ?_) ?_ (by kernel_rfl) (by kernel_rfl) (by kernel_rfl) ?_ (Or.inr ⟨?_, ?_⟩) (by assumption) ?_; rotate_left 2; (· (simp only [List.getElem?_toArray, List.getElem?_cons_succ, List.getElem?_cons_zero]; first | done | rfl)); (· exact (fun _ _ _ h => h)); (· rfl); (· rfl))
    (try simp only [Act.put, List.setIfInBounds_toArray, List.set_cons_zero, List.set_cons_succ])
    (refine wpAnyH_take (i := 18) (oi := ?_) (v := ?_) ?_ (by kernel_rfl) (by kernel_rfl) (by kernel_rfl) ?_ (Or.inr ⟨?_, ?_⟩) (by assumption) ?_; rotate_left 2; (· (simp only [List.getElem?_toArray, List.getElem?_cons_succ, List.getElem?_cons_zero]; first | done | rfl)); (· exact (fun _ _ _ h => h)); (· rfl); (· rfl))
    (try simp only [Act.put, List.setIfInBounds_toArray, List.set_cons_zero, List.set_cons_succ])
    (refine wpAnyH_take (i := 19) (oi := ?_) (v := ?_) ?_ (by kernel_rfl) (by kernel_rfl) (by kernel_rfl) ?_ (Or.inr ⟨?_, ?_⟩) (by assumption) ?_; rotate_left 2; (· (simp only [List.getElem?_toArray, List.getElem?_cons_succ, List.getElem?_cons_zero]; first | done | rfl)); (· exact (fun _ _ _ h => h)); (· rfl); (· rfl))
    (try simp only [Act.put, List.setIfInBounds_toArray, List.set_cons_zero, List.set_cons_succ])
    (refine wpAnyH_take (i := 20) (oi := ?_) (v := ?_) ?_ (by kernel_rfl) (by kernel_rfl) (by kernel_rfl) ?_ (Or.inr ⟨?_, ?_⟩) (by assumption) ?_; rotate_left 2; (· (simp only [List.getElem?_toArray, List.getElem?_cons_succ, List.getElem?_cons_zero]; first | done | rfl)); (· exact (fun _ _ _ h => h)); (· rfl); (· rfl))
    (try simp only [Act.put, List.setIfInBounds_toArray, List.set_cons_zero, List.set_cons_succ])
    (refine wpAnyH_take (i := 21) (oi := ?_) (v := ?_) ?_ (by kernel_rfl) (by kernel_rfl) (by kernel_rfl) ?_ (Or.inr ⟨?_, ?_⟩) (by assumption) ?_; rotate_left 2; (· (simp only [List.getElem?_toArray, List.getElem?_cons_succ, List.getElem?_cons_zero]; first | done | rfl)); (· exact (fun _ _ _ h => h)); (· rfl); (· rfl))
    (try simp only [Act.put, List.setIfInBounds_toArray, List.set_cons_zero, List.set_cons_succ])
    (refine wpAnyH_take (i := 22) (oi := ?_) (v := ?_) ?_ (by kernel_rfl) (by kernel_rfl) (by kernel_rfl) ?_ (Or.inr ⟨?_, ?_⟩) (by assumption) ?_; rotate_left 2; (· (simp only [List.getElem?_toArray, List.getElem?_cons_succ, List.getElem?_cons_zero]; first | done | rfl)); (· exact (fun _ _ _ h => h)); (· rfl); (· rfl))
    (try simp only [Act.put, List.setIfInBounds_toArray, List.set_cons_zero, List.set_cons_succ])
    (refine wpAnyH_take (i := 23) (oi := ?_) (v := ?_) ?_ (by kernel_rfl) (by kernel_rfl) (by kernel_rfl) ?_ (Or.inl ⟨?_, ?_⟩) (by assumption) ?_; rotate_left 2; (· (simp only [List.getElem?_toArray, List.getElem?_cons_succ, List.getElem?_cons_zero]; first | done | rfl)); (· exact (fun _ _ _ h => h)); (· rfl); (· (intro w hSw; (try dsimp only at hSw); go_simp; (try with_reducible rfl))))
    (try simp only [Act.put, List.setIfInBounds_toArray, List.set_cons_zero, List.set_cons_succ])
    (refine wpAnyH_take (i := 24) (oi := ?_) (v := ?_) ?_ (by kernel_rfl) (by kernel_rfl) (by kernel_rfl) ?_ (Or.inl ⟨?_, ?_⟩) (by assumption) ?_; rotate_left 2; (· (simp only [List.getElem?_toArray, List.getElem?_cons_succ, List.getElem?_cons_zero]; first | done | rfl)); (· exact (fun _ _ _ h => h)); (· rfl); (· (intro w hSw; (try dsimp only at hSw); go_simp; (try with_reducible rfl))))
    (try simp only [Act.put, List.setIfInBounds_toArray, List.set_cons_zero, List.set_cons_succ])
    refine wpAnyH_done (by kernel_rfl) ?_ _
    go_wp2_with fail
    go_ret
    exact ⟨rfl, btrans HB9.out (as_own (by assumption))⟩
  · as_aux_lemma =>
    obtain ⟨k1, k2, k3⟩ := HNO.out rfl
    obtain ⟨hne, hru, hac⟩ := HRU.out rfl
    have HNE := Lib.hid hne; have HRUL := Lib.hid hru; have HACL := Lib.hid hac
    clear HMS HRU HNO hne hru hac
    refine wp_region_held_drew (S := (fun w' => w'.cell? ⟨pm, 0, none⟩ = some (.int .i64 m.kind) ∧ w'.cell? ⟨pm, 1, none⟩ = some (.int .i64 m.at_) ∧ w'.cell? ⟨pm, 2, none⟩ = some (.int .i64 m.r.k.kind) ∧ w'.cell? ⟨pm, 3, none⟩ = some (.int .i64 m.r.k.tenant) ∧ w'.cell? ⟨pm, 4, none⟩ = some (.string ⟨m.r.k.who.toArray⟩) ∧ w'.cell? ⟨pm, 5, none⟩ = some (.int .i64 m.r.br) ∧ w'.cell? ⟨pm, 6, none⟩ = some (.string ⟨m.r.sc.toArray⟩) ∧ w'.cell? ⟨pm, 7, none⟩ = some (.slice m.r.c0 m.r.cn m.r.cc) ∧ w'.cell? ⟨pm, 8, none⟩ = some (.string ⟨m.r.nm.toArray⟩) ∧ w'.cell? ⟨pm, 9, none⟩ = some (.int .i64 m.r.k.pl) ∧ w'.cell? ⟨pm, 10, none⟩ = some (.string ⟨m.fs.toArray⟩) ∧ w'.cell? ⟨pm, 11, none⟩ = some (.slice m.f0 m.fn m.fc) ∧ w'.cell? ⟨pm, 12, none⟩ = some (.string ⟨m.es.toArray⟩) ∧ w'.cell? ⟨pm, 13, none⟩ = some (.slice m.e0 m.en m.ec) ∧ w'.cell? ⟨pm, 14, none⟩ = some (.int .i64 m.ver) ∧ w'.cell? ⟨pm, 15, none⟩ = some (.string ⟨m.org.toArray⟩) ∧ w'.cell? ⟨pm, 16, none⟩ = some (.int .i64 m.ser) ∧ w'.cell? ⟨pr, 0, none⟩ = some (.int .i64 r.k.kind) ∧ w'.cell? ⟨pr, 1, none⟩ = some (.int .i64 r.k.tenant) ∧ w'.cell? ⟨pr, 2, none⟩ = some (.string ⟨r.k.who.toArray⟩) ∧ w'.cell? ⟨pr, 3, none⟩ = some (.int .i64 r.br) ∧ w'.cell? ⟨pr, 4, none⟩ = some (.string ⟨r.sc.toArray⟩) ∧ w'.cell? ⟨pr, 5, none⟩ = some (.slice r.c0 r.cn r.cc) ∧ w'.cell? ⟨pr, 6, none⟩ = some (.string ⟨r.nm.toArray⟩) ∧ w'.cell? ⟨pr, 7, none⟩ = some (.int .i64 r.k.pl) ∧ (convert 22 9 (.slice a0 s.length cap)).run Try.prog w' = .ok (.string ⟨s.toArray⟩) w' ∧ Below W9.heap.size W9 w')) (by kernel_rfl) ?_ (fun hq0 => ?_)
    · ((try dsimp only); (first | exact as_of HX9.out HR9.out HCV.out (bdrewN (Below.refl _ _) 1) | assumption | exact as_of HX9.out HR9.out HCV.out (btrans (as_own (by assumption)) (by assumption))))
    (refine wpAnyH_take (i := 0) (oi := ?_) (v := ?_) ?_ (by kernel_rfl) (by kernel_rfl) (by kernel_rfl) ?_ (Or.inl ⟨?_, ?_⟩) (by assumption) ?_; rotate_left 2; (· (simp only [List.getElem?_toArray, List.getElem?_cons_zero]; first | done | rfl)); (· exact (fun _ _ _ h => h)); (· rfl); (· (intro w hSw; (try dsimp only at hSw); go_simp; (try with_reducible rfl))))
    (try simp only [Act.put, List.setIfInBounds_toArray, List.set_cons_zero, List.set_cons_succ])
    (refine wpAnyH_take (i := 1) (oi := ?_) (v := ?_) ?_ (by kernel_rfl) (by kernel_rfl) (by kernel_rfl) ?_ (Or.inl ⟨?_, ?_⟩) (by assumption) ?_; rotate_left 2; (· (simp only [List.getElem?_toArray, List.getElem?_cons_succ, List.getElem?_cons_zero]; first | done | rfl)); (· exact (fun _ _ _ h => h)); (· rfl); (· (intro w hSw; (try dsimp only at hSw); go_simp; (try with_reducible rfl))))
    (try simp only [Act.put, List.setIfInBounds_toArray, List.set_cons_zero, List.set_cons_succ])
    (refine wpAnyH_take (i := 2) (oi := ?_) (v := ?_) ?_ (by kernel_rfl) (by kernel_rfl) (by kernel_rfl) ?_ (Or.inr ⟨?_, ?_⟩) (by assumption) ?_; rotate_left 2; (· (simp only [List.getElem?_toArray, List.getElem?_cons_succ, List.getElem?_cons_zero]; first | done | rfl)); (· exact (fun _ _ _ h => h)); (· rfl); (· rfl))
    (try simp only [Act.put, List.setIfInBounds_toArray, List.set_cons_zero, List.set_cons_succ])
    (refine wpAnyH_take (i := 3) (oi := ?_) (v := ?_) ?_ (by kernel_rfl) (by kernel_rfl) (by kernel_rfl) ?_ (Or.inr ⟨?_, ?_⟩) (by assumption) ?_; rotate_left 2; (· (simp only [List.getElem?_toArray, List.getElem?_cons_succ, List.getElem?_cons_zero]; first | done | rfl)); (· exact (fun _ _ _ h => h)); (· rfl); (· rfl))
    (try simp only [Act.put, List.setIfInBounds_toArray, List.set_cons_zero, List.set_cons_succ])
    (refine wpAnyH_take (i := 4) (oi := ?_) (v := ?_) ?_ (by kernel_rfl) (by kernel_rfl) (by kernel_rfl) ?_ (Or.inr ⟨?_, ?_⟩) (by assumption) ?_; rotate_left 2; (· (simp only [List.getElem?_toArray, List.getElem?_cons_succ, List.getElem?_cons_zero]; first | done | rfl)); (· exact (fun _ _ _ h => h)); (· rfl); (· rfl))
    (try simp only [Act.put, List.setIfInBounds_toArray, List.set_cons_zero, List.set_cons_succ])
    (refine wpAnyH_take (i := 5) (oi := ?_) (v := ?_) ?_ (by kernel_rfl) (by kernel_rfl) (by kernel_rfl) ?_ (Or.inr ⟨?_, ?_⟩) (by assumption) ?_; rotate_left 2; (· (simp only [List.getElem?_toArray, List.getElem?_cons_succ, List.getElem?_cons_zero]; first | done | rfl)); (· exact (fun _ _ _ h => h)); (· rfl); (· rfl))
    (try simp only [Act.put, List.setIfInBounds_toArray, List.set_cons_zero, List.set_cons_succ])
    (refine wpAnyH_take (i := 6) (oi := ?_) (v := ?_) ?_ (by kernel_rfl) (by kernel_rfl) (by kernel_rfl) ?_ (Or.inr ⟨?_, ?_⟩) (by assumption) ?_; rotate_left 2; (· (simp only [List.getElem?_toArray, List.getElem?_cons_succ, List.getElem?_cons_zero]; first | done | rfl)); (· exact (fun _ _ _ h => h)); (· rfl); (· rfl))
    (try simp only [Act.put, List.setIfInBounds_toArray, List.set_cons_zero, List.set_cons_succ])
    (refine wpAnyH_take (i := 7) (oi := ?_) (v := ?_) ?_ (by kernel_rfl) (by kernel_rfl) (by kernel_rfl) ?_ (Or.inr ⟨?_, ?_⟩) (by assumption) ?_; rotate_left 2; (· (simp only [List.getElem?_toArray, List.getElem?_cons_succ, List.getElem?_cons_zero]; first | done | rfl)); (· exact (fun _ _ _ h => h)); (· rfl); (· rfl))
    (try simp only [Act.put, List.setIfInBounds_toArray, List.set_cons_zero, List.set_cons_succ])
    (refine wpAnyH_take (i := 8) (oi := ?_) (v := ?_) ?_ (by kernel_rfl) (by kernel_rfl) (by kernel_rfl) ?_ (Or.inl ⟨?_, ?_⟩) (by assumption) ?_; rotate_left 2; (· (simp only [List.getElem?_toArray, List.getElem?_cons_succ, List.getElem?_cons_zero]; first | done | rfl)); (· exact (fun _ _ _ h => h)); (· rfl); (· (intro w hSw; (try dsimp only at hSw); go_simp; (try with_reducible rfl))))
    (try simp only [Act.put, List.setIfInBounds_toArray, List.set_cons_zero, List.set_cons_succ])
    (refine wpAnyH_take (i := 9) (oi := ?_) (v := ?_) ?_ (by kernel_rfl) (by kernel_rfl) (by kernel_rfl) ?_ (Or.inl ⟨?_, ?_⟩) (by assumption) ?_; rotate_left 2; (· (simp only [List.getElem?_toArray, List.getElem?_cons_succ, List.getElem?_cons_zero]; first | done | rfl)); (· exact (fun _ _ _ h => h)); (· rfl); (· (intro w hSw; (try dsimp only at hSw); go_simp; (try with_reducible rfl))))
    (try simp only [Act.put, List.setIfInBounds_toArray, List.set_cons_zero, List.set_cons_succ])
    (refine wpAnyH_take (i := 10) (oi := ?_) (v := ?_) ?_ (by kernel_rfl) (by kernel_rfl) (by kernel_rfl) ?_ (Or.inl ⟨?_, ?_⟩) (by assumption) ?_; rotate_left 2; (· (simp only [List.getElem?_toArray, List.getElem?_cons_succ, List.getElem?_cons_zero]; first | done | rfl)); (· exact (fun _ _ _ h => h)); (· rfl); (· (intro w hSw; (try dsimp only at hSw); go_simp; (try with_reducible rfl))))
    (try simp only [Act.put, List.setIfInBounds_toArray, List.set_cons_zero, List.set_cons_succ])
    (refine wpAnyH_take (i := 11) (oi := ?_) (v := ?_) ?_ (by kernel_rfl) (by kernel_rfl) (by kernel_rfl) ?_ (Or.inl ⟨?_, ?_⟩) (by assumption) ?_; rotate_left 2; (· (simp only [List.getElem?_toArray, List.getElem?_cons_succ, List.getElem?_cons_zero]; first | done | rfl)); (· exact (fun _ _ _ h => h)); (· rfl); (· (intro w hSw; (try dsimp only at hSw); go_simp; (try with_reducible rfl))))
    (try simp only [Act.put, List.setIfInBounds_toArray, List.set_cons_zero, List.set_cons_succ])
    (refine wpAnyH_take (i := 12) (oi := ?_) (v := ?_) ?_ (by kernel_rfl) (by kernel_rfl) (by kernel_rfl) ?_ (Or.inl ⟨?_, ?_⟩) (by assumption) ?_; rotate_left 2; (· (simp only [List.getElem?_toArray, List.getElem?_cons_succ, List.getElem?_cons_zero]; first | done | rfl)); (· exact (fun _ _ _ h => h)); (· rfl); (· (intro w hSw; (try dsimp only at hSw); go_simp; (try with_reducible rfl))))
    (try simp only [Act.put, List.setIfInBounds_toArray, List.set_cons_zero, List.set_cons_succ])
    (refine wpAnyH_take (i := 15) (oi := ?_) (v := ?_) ?_ (by kernel_rfl) (by kernel_rfl) (by kernel_rfl) ?_ (Or.inl ⟨?_, ?_⟩) (by assumption) ?_; rotate_left 2; (· (simp only [List.getElem?_toArray, List.getElem?_cons_succ, List.getElem?_cons_zero]; first | done | rfl)); (· exact (fun _ _ _ h => h)); (· rfl); (· (intro w hSw; (try dsimp only at hSw); go_simp; (try with_reducible rfl))))
    (try simp only [Act.put, List.setIfInBounds_toArray, List.set_cons_zero, List.set_cons_succ])
    (refine wpAnyH_take (i := 16) (oi := ?_) (v := ?_) ?_ (by kernel_rfl) (by kernel_rfl) (by kernel_rfl) ?_ (Or.inl ⟨?_, ?_⟩) (by assumption) ?_; rotate_left 2; (· (simp only [List.getElem?_toArray, List.getElem?_cons_succ, List.getElem?_cons_zero]; first | done | rfl)); (· exact (fun _ _ _ h => h)); (· rfl); (· (intro w hSw; (try dsimp only at hSw); go_simp; (try with_reducible rfl))))
    (try simp only [Act.put, List.setIfInBounds_toArray, List.set_cons_zero, List.set_cons_succ])
    refine wpAnyH_ready (rs := [13]) (by kernel_rfl) (by simp) ?_
    refine AllReadyH.cons (o := ?_) ?_ (fun K hK => ?_) AllReadyH.nil
    rotate_left 1
    · (simp only [List.getElem?_toArray, List.getElem?_cons_succ, List.getElem?_cons_zero]; first | done | rfl)
    go_simp
    first | (refine hK.out _ _ ?_ (fun hq1 => ?_)) | ((first | (go_at_call 8; (with_reducible refine (HMSG.out _ (as_own (by assumption))).mono ?_); rintro e w9 ⟨⟨a9, c9, rfl, h91, h92, h93⟩, hb9⟩; have hcv9 := conv_lays (cap := c9) h93 HNE.out) | (go_at_call 9; (with_reducible refine (HRUL.out _ (as_own (by assumption))).mono ?_); rintro e w9 ⟨⟨a9, c9, rfl, h91, h92, h93⟩, hb9⟩; have hcv9 := conv_lays (cap := c9) h93 HNE.out) | (go_at_call 10; (with_reducible refine (HACL.out _ (as_own (by assumption))).mono ?_); rintro e w9 ⟨rfl, hb9⟩)); refine hK.out _ _ ?_ (fun hq1 => ?_)) | ((first | (go_at_call 8; (with_reducible refine (HMSG.out _ (as_own (by assumption))).mono ?_); rintro e w9 ⟨⟨a9, c9, rfl, h91, h92, h93⟩, hb9⟩; have hcv9 := conv_lays (cap := c9) h93 HNE.out) | (go_at_call 9; (with_reducible refine (HRUL.out _ (as_own (by assumption))).mono ?_); rintro e w9 ⟨⟨a9, c9, rfl, h91, h92, h93⟩, hb9⟩; have hcv9 := conv_lays (cap := c9) h93 HNE.out) | (go_at_call 10; (with_reducible refine (HACL.out _ (as_own (by assumption))).mono ?_); rintro e w9 ⟨rfl, hb9⟩)); go_wp2_with fail; refine hK.out _ _ ?_ (fun hq1 => ?_)) | fail
    · ((try dsimp only); (first | exact as_of HX9.out HR9.out HCV.out (bdrewN (Below.refl _ _) 1) | assumption | exact as_of HX9.out HR9.out HCV.out (btrans (as_own (by assumption)) (by assumption))))
    clear hK K
    (try simp only [Act.put, List.setIfInBounds_toArray, List.set_cons_zero, List.set_cons_succ])
    clear hq0
    refine wpAnyH_ready (rs := [14]) (by kernel_rfl) (by simp) ?_
    refine AllReadyH.cons (o := ?_) ?_ (fun K hK => ?_) AllReadyH.nil
    rotate_left 1
    · (simp only [List.getElem?_toArray, List.getElem?_cons_succ, List.getElem?_cons_zero]; first | done | rfl)
    go_simp
    first | (refine hK.out _ _ ?_ (fun hq2 => ?_)) | ((first | (go_at_call 8; (with_reducible refine (HMSG.out _ (as_own (by assumption))).mono ?_); rintro e w9 ⟨⟨a9, c9, rfl, h91, h92, h93⟩, hb9⟩; have hcv9 := conv_lays (cap := c9) h93 HNE.out) | (go_at_call 9; (with_reducible refine (HRUL.out _ (as_own (by assumption))).mono ?_); rintro e w9 ⟨⟨a9, c9, rfl, h91, h92, h93⟩, hb9⟩; have hcv9 := conv_lays (cap := c9) h93 HNE.out) | (go_at_call 10; (with_reducible refine (HACL.out _ (as_own (by assumption))).mono ?_); rintro e w9 ⟨rfl, hb9⟩)); refine hK.out _ _ ?_ (fun hq2 => ?_)) | ((first | (go_at_call 8; (with_reducible refine (HMSG.out _ (as_own (by assumption))).mono ?_); rintro e w9 ⟨⟨a9, c9, rfl, h91, h92, h93⟩, hb9⟩; have hcv9 := conv_lays (cap := c9) h93 HNE.out) | (go_at_call 9; (with_reducible refine (HRUL.out _ (as_own (by assumption))).mono ?_); rintro e w9 ⟨⟨a9, c9, rfl, h91, h92, h93⟩, hb9⟩; have hcv9 := conv_lays (cap := c9) h93 HNE.out) | (go_at_call 10; (with_reducible refine (HACL.out _ (as_own (by assumption))).mono ?_); rintro e w9 ⟨rfl, hb9⟩)); go_wp2_with fail; refine hK.out _ _ ?_ (fun hq2 => ?_)) | fail
    · ((try dsimp only); (first | exact as_of HX9.out HR9.out HCV.out (bdrewN (Below.refl _ _) 1) | assumption | exact as_of HX9.out HR9.out HCV.out (btrans (as_own (by assumption)) (by assumption))))
    clear hK K
    (try simp only [Act.put, List.setIfInBounds_toArray, List.set_cons_zero, List.set_cons_succ])
    clear hq1
    (refine wpAnyH_take (i := 17) (oi := ?_) (v := ?_) ?_ (by kernel_rfl) (by kernel_rfl) (by kernel_rfl) ?_ (Or.inl ⟨?_, ?_⟩) (by assumption) ?_; rotate_left 2; (· (simp only [List.getElem?_toArray, List.getElem?_cons_succ, List.getElem?_cons_zero]; first | done | rfl)); (· exact (fun _ _ _ h => h)); (· rfl); (· (intro w hSw; (try dsimp only at hSw); go_simp; (try with_reducible rfl))))
    (try simp only [Act.put, List.setIfInBounds_toArray, List.set_cons_zero, List.set_cons_succ])
    (refine wpAnyH_take (i := 18) (oi := ?_) (v := ?_) ?_ (by kernel_rfl) (by kernel_rfl) (by kernel_rfl) ?_ (Or.inl ⟨?_, ?_⟩) (by assumption) ?_; rotate_left 2; (· (simp only [List.getElem?_toArray, List.getElem?_cons_succ, List.getElem?_cons_zero]; first | done | rfl)); (· exact (fun _ _ _ h => h)); (· rfl); (· (intro w hSw; (try dsimp only at hSw); go_simp; (try with_reducible rfl))))
    (try simp only [Act.put, List.setIfInBounds_toArray, List.set_cons_zero, List.set_cons_succ])
    (refine wpAnyH_take (i := 19) (oi := ?_) (v := ?_) ?_ (by kernel_rfl) (by kernel_rfl) (by kernel_rfl) ?_ (Or.inl ⟨?_, ?_⟩) (by assumption) ?_; rotate_left 2; (· (simp only [List.getElem?_toArray, List.getElem?_cons_succ, List.getElem?_cons_zero]; first | done | rfl)); (· exact (fun _ _ _ h => h)); (· rfl); (· (intro w hSw; (try dsimp only at hSw); go_simp; (try with_reducible rfl))))
    (try simp only [Act.put, List.setIfInBounds_toArray, List.set_cons_zero, List.set_cons_succ])
    refine wpAnyH_ready (rs := [20]) (by kernel_rfl) (by simp) ?_
    refine AllReadyH.cons (o := ?_) ?_ (fun K hK => ?_) AllReadyH.nil
    rotate_left 1
    · (simp only [List.getElem?_toArray, List.getElem?_cons_succ, List.getElem?_cons_zero]; first | done | rfl)
    go_simp
    first | (refine hK.out _ _ ?_ (fun hq3 => ?_)) | ((first | (go_at_call 8; (with_reducible refine (HMSG.out _ (as_own (by assumption))).mono ?_); rintro e w9 ⟨⟨a9, c9, rfl, h91, h92, h93⟩, hb9⟩; have hcv9 := conv_lays (cap := c9) h93 HNE.out) | (go_at_call 9; (with_reducible refine (HRUL.out _ (as_own (by assumption))).mono ?_); rintro e w9 ⟨⟨a9, c9, rfl, h91, h92, h93⟩, hb9⟩; have hcv9 := conv_lays (cap := c9) h93 HNE.out) | (go_at_call 10; (with_reducible refine (HACL.out _ (as_own (by assumption))).mono ?_); rintro e w9 ⟨rfl, hb9⟩)); refine hK.out _ _ ?_ (fun hq3 => ?_)) | ((first | (go_at_call 8; (with_reducible refine (HMSG.out _ (as_own (by assumption))).mono ?_); rintro e w9 ⟨⟨a9, c9, rfl, h91, h92, h93⟩, hb9⟩; have hcv9 := conv_lays (cap := c9) h93 HNE.out) | (go_at_call 9; (with_reducible refine (HRUL.out _ (as_own (by assumption))).mono ?_); rintro e w9 ⟨⟨a9, c9, rfl, h91, h92, h93⟩, hb9⟩; have hcv9 := conv_lays (cap := c9) h93 HNE.out) | (go_at_call 10; (with_reducible refine (HACL.out _ (as_own (by assumption))).mono ?_); rintro e w9 ⟨rfl, hb9⟩)); go_wp2_with fail; refine hK.out _ _ ?_ (fun hq3 => ?_)) | fail
    · ((try dsimp only); (first | exact as_of HX9.out HR9.out HCV.out (bdrewN (Below.refl _ _) 1) | assumption | exact as_of HX9.out HR9.out HCV.out (btrans (as_own (by assumption)) (by assumption))))
    clear hK K
    (try simp only [Act.put, List.setIfInBounds_toArray, List.set_cons_zero, List.set_cons_succ])
    clear hq2
    (refine wpAnyH_take (i := 21) (oi := ?_) (v := ?_) ?_ (by kernel_rfl) (by kernel_rfl) (by kernel_rfl) ?_ (Or.inl ⟨?_, ?_⟩) (by assumption) ?_; rotate_left 2; (· (simp only [List.getElem?_toArray, List.getElem?_cons_succ, List.getElem?_cons_zero]; first | done | rfl)); (· exact (fun _ _ _ h => h)); (· rfl); (· (intro w hSw; (try dsimp only at hSw); go_simp; (try with_reducible rfl))))
    (try simp only [Act.put, List.setIfInBounds_toArray, List.set_cons_zero, List.set_cons_succ])
    (refine wpAnyH_take (i := 22) (oi := ?_) (v := ?_) ?_ (by kernel_rfl) (by kernel_rfl) (by kernel_rfl) ?_ (Or.inl ⟨?_, ?_⟩) (by assumption) ?_; rotate_left 2; (· (simp only [List.getElem?_toArray, List.getElem?_cons_succ, List.getElem?_cons_zero]; first | done | rfl)); (· exact (fun _ _ _ h => h)); (· rfl); (· (intro w hSw; (try dsimp only at hSw); go_simp; (try with_reducible rfl))))
    (try simp only [Act.put, List.setIfInBounds_toArray, List.set_cons_zero, List.set_cons_succ])
    (refine wpAnyH_take (i := 23) (oi := ?_) (v := ?_) ?_ (by kernel_rfl) (by kernel_rfl) (by kernel_rfl) ?_ (Or.inl ⟨?_, ?_⟩) (by assumption) ?_; rotate_left 2; (· (simp only [List.getElem?_toArray, List.getElem?_cons_succ, List.getElem?_cons_zero]; first | done | rfl)); (· exact (fun _ _ _ h => h)); (· rfl); (· (intro w hSw; (try dsimp only at hSw); go_simp; (try with_reducible rfl))))
    (try simp only [Act.put, List.setIfInBounds_toArray, List.set_cons_zero, List.set_cons_succ])
    (refine wpAnyH_take (i := 24) (oi := ?_) (v := ?_) ?_ (by kernel_rfl) (by kernel_rfl) (by kernel_rfl) ?_ (Or.inl ⟨?_, ?_⟩) (by assumption) ?_; rotate_left 2; (· (simp only [List.getElem?_toArray, List.getElem?_cons_succ, List.getElem?_cons_zero]; first | done | rfl)); (· exact (fun _ _ _ h => h)); (· rfl); (· (intro w hSw; (try dsimp only at hSw); go_simp; (try with_reducible rfl))))
    (try simp only [Act.put, List.setIfInBounds_toArray, List.set_cons_zero, List.set_cons_succ])
    refine wpAnyH_done (by kernel_rfl) ?_ _
    go_wp2_with fail
    go_ret
    exact ⟨rfl, btrans HB9.out (as_own (by assumption))⟩
  · as_aux_lemma =>
    obtain ⟨hne, hms⟩ := HMS.out rfl
    have HNE := Lib.hid hne; have HMSG := Lib.hid hms
    clear HMS HRU HNO hne hms
    refine wp_region_held_drew (S := (fun w' => w'.cell? ⟨pm, 0, none⟩ = some (.int .i64 m.kind) ∧ w'.cell? ⟨pm, 1, none⟩ = some (.int .i64 m.at_) ∧ w'.cell? ⟨pm, 2, none⟩ = some (.int .i64 m.r.k.kind) ∧ w'.cell? ⟨pm, 3, none⟩ = some (.int .i64 m.r.k.tenant) ∧ w'.cell? ⟨pm, 4, none⟩ = some (.string ⟨m.r.k.who.toArray⟩) ∧ w'.cell? ⟨pm, 5, none⟩ = some (.int .i64 m.r.br) ∧ w'.cell? ⟨pm, 6, none⟩ = some (.string ⟨m.r.sc.toArray⟩) ∧ w'.cell? ⟨pm, 7, none⟩ = some (.slice m.r.c0 m.r.cn m.r.cc) ∧ w'.cell? ⟨pm, 8, none⟩ = some (.string ⟨m.r.nm.toArray⟩) ∧ w'.cell? ⟨pm, 9, none⟩ = some (.int .i64 m.r.k.pl) ∧ w'.cell? ⟨pm, 10, none⟩ = some (.string ⟨m.fs.toArray⟩) ∧ w'.cell? ⟨pm, 11, none⟩ = some (.slice m.f0 m.fn m.fc) ∧ w'.cell? ⟨pm, 12, none⟩ = some (.string ⟨m.es.toArray⟩) ∧ w'.cell? ⟨pm, 13, none⟩ = some (.slice m.e0 m.en m.ec) ∧ w'.cell? ⟨pm, 14, none⟩ = some (.int .i64 m.ver) ∧ w'.cell? ⟨pm, 15, none⟩ = some (.string ⟨m.org.toArray⟩) ∧ w'.cell? ⟨pm, 16, none⟩ = some (.int .i64 m.ser) ∧ w'.cell? ⟨pr, 0, none⟩ = some (.int .i64 r.k.kind) ∧ w'.cell? ⟨pr, 1, none⟩ = some (.int .i64 r.k.tenant) ∧ w'.cell? ⟨pr, 2, none⟩ = some (.string ⟨r.k.who.toArray⟩) ∧ w'.cell? ⟨pr, 3, none⟩ = some (.int .i64 r.br) ∧ w'.cell? ⟨pr, 4, none⟩ = some (.string ⟨r.sc.toArray⟩) ∧ w'.cell? ⟨pr, 5, none⟩ = some (.slice r.c0 r.cn r.cc) ∧ w'.cell? ⟨pr, 6, none⟩ = some (.string ⟨r.nm.toArray⟩) ∧ w'.cell? ⟨pr, 7, none⟩ = some (.int .i64 r.k.pl) ∧ (convert 22 9 (.slice a0 s.length cap)).run Try.prog w' = .ok (.string ⟨s.toArray⟩) w' ∧ Below W9.heap.size W9 w')) (by kernel_rfl) ?_ (fun hq0 => ?_)
    · ((try dsimp only); (first | exact as_of HX9.out HR9.out HCV.out (bdrewN (Below.refl _ _) 1) | assumption | exact as_of HX9.out HR9.out HCV.out (btrans (as_own (by assumption)) (by assumption))))
    (refine wpAnyH_take (i := 0) (oi := ?_) (v := ?_) ?_ (by kernel_rfl) (by kernel_rfl) (by kernel_rfl) ?_ (Or.inl ⟨?_, ?_⟩) (by assumption) ?_; rotate_left 2; (· (simp only [List.getElem?_toArray, List.getElem?_cons_zero]; first | done | rfl)); (· exact (fun _ _ _ h => h)); (· rfl); (· (intro w hSw; (try dsimp only at hSw); go_simp; (try with_reducible rfl))))
    (try simp only [Act.put, List.setIfInBounds_toArray, List.set_cons_zero, List.set_cons_succ])
    (refine wpAnyH_take (i := 1) (oi := ?_) (v := ?_) ?_ (by kernel_rfl) (by kernel_rfl) (by kernel_rfl) ?_ (Or.inl ⟨?_, ?_⟩) (by assumption) ?_; rotate_left 2; (· (simp only [List.getElem?_toArray, List.getElem?_cons_succ, List.getElem?_cons_zero]; first | done | rfl)); (· exact (fun _ _ _ h => h)); (· rfl); (· (intro w hSw; (try dsimp only at hSw); go_simp; (try with_reducible rfl))))
    (try simp only [Act.put, List.setIfInBounds_toArray, List.set_cons_zero, List.set_cons_succ])
    (refine wpAnyH_take (i := 2) (oi := ?_) (v := ?_) ?_ (by kernel_rfl) (by kernel_rfl) (by kernel_rfl) ?_ (Or.inl ⟨?_, ?_⟩) (by assumption) ?_; rotate_left 2; (· (simp only [List.getElem?_toArray, List.getElem?_cons_succ, List.getElem?_cons_zero]; first | done | rfl)); (· exact (fun _ _ _ h => h)); (· rfl); (· (intro w hSw; (try dsimp only at hSw); go_simp; (try with_reducible rfl))))
    (try simp only [Act.put, List.setIfInBounds_toArray, List.set_cons_zero, List.set_cons_succ])
    (refine wpAnyH_take (i := 5) (oi := ?_) (v := ?_) ?_ (by kernel_rfl) (by kernel_rfl) (by kernel_rfl) ?_ (Or.inl ⟨?_, ?_⟩) (by assumption) ?_; rotate_left 2; (· (simp only [List.getElem?_toArray, List.getElem?_cons_succ, List.getElem?_cons_zero]; first | done | rfl)); (· exact (fun _ _ _ h => h)); (· rfl); (· (intro w hSw; (try dsimp only at hSw); go_simp; (try with_reducible rfl))))
    (try simp only [Act.put, List.setIfInBounds_toArray, List.set_cons_zero, List.set_cons_succ])
    (refine wpAnyH_take (i := 6) (oi := ?_) (v := ?_) ?_ (by kernel_rfl) (by kernel_rfl) (by kernel_rfl) ?_ (Or.inl ⟨?_, ?_⟩) (by assumption) ?_; rotate_left 2; (· (simp only [List.getElem?_toArray, List.getElem?_cons_succ, List.getElem?_cons_zero]; first | done | rfl)); (· exact (fun _ _ _ h => h)); (· rfl); (· (intro w hSw; (try dsimp only at hSw); go_simp; (try with_reducible rfl))))
    (try simp only [Act.put, List.setIfInBounds_toArray, List.set_cons_zero, List.set_cons_succ])
    refine wpAnyH_ready (rs := [3]) (by kernel_rfl) (by simp) ?_
    refine AllReadyH.cons (o := ?_) ?_ (fun K hK => ?_) AllReadyH.nil
    rotate_left 1
    · (simp only [List.getElem?_toArray, List.getElem?_cons_succ, List.getElem?_cons_zero]; first | done | rfl)
    go_simp
    first | (refine hK.out _ _ ?_ (fun hq1 => ?_)) | ((first | (go_at_call 8; (with_reducible refine (HMSG.out _ (as_own (by assumption))).mono ?_); rintro e w9 ⟨⟨a9, c9, rfl, h91, h92, h93⟩, hb9⟩; have hcv9 := conv_lays (cap := c9) h93 HNE.out) | (go_at_call 9; (with_reducible refine (HRUL.out _ (as_own (by assumption))).mono ?_); rintro e w9 ⟨⟨a9, c9, rfl, h91, h92, h93⟩, hb9⟩; have hcv9 := conv_lays (cap := c9) h93 HNE.out) | (go_at_call 10; (with_reducible refine (HACL.out _ (as_own (by assumption))).mono ?_); rintro e w9 ⟨rfl, hb9⟩)); refine hK.out _ _ ?_ (fun hq1 => ?_)) | ((first | (go_at_call 8; (with_reducible refine (HMSG.out _ (as_own (by assumption))).mono ?_); rintro e w9 ⟨⟨a9, c9, rfl, h91, h92, h93⟩, hb9⟩; have hcv9 := conv_lays (cap := c9) h93 HNE.out) | (go_at_call 9; (with_reducible refine (HRUL.out _ (as_own (by assumption))).mono ?_); rintro e w9 ⟨⟨a9, c9, rfl, h91, h92, h93⟩, hb9⟩; have hcv9 := conv_lays (cap := c9) h93 HNE.out) | (go_at_call 10; (with_reducible refine (HACL.out _ (as_own (by assumption))).mono ?_); rintro e w9 ⟨rfl, hb9⟩)); go_wp2_with fail; refine hK.out _ _ ?_ (fun hq1 => ?_)) | fail
    · ((try dsimp only); (first | exact as_of HX9.out HR9.out HCV.out (bdrewN (Below.refl _ _) 1) | assumption | exact as_of HX9.out HR9.out HCV.out (btrans (as_own (by assumption)) (by assumption))))
    clear hK K
    (try simp only [Act.put, List.setIfInBounds_toArray, List.set_cons_zero, List.set_cons_succ])
    clear hq0
    refine wpAnyH_ready (rs := [4]) (by kernel_rfl) (by simp) ?_
    refine AllReadyH.cons (o := ?_) ?_ (fun K hK => ?_) AllReadyH.nil
    rotate_left 1
    · (simp only [List.getElem?_toArray, List.getElem?_cons_succ, List.getElem?_cons_zero]; first | done | rfl)
    go_simp
    first | (refine hK.out _ _ ?_ (fun hq2 => ?_)) | ((first | (go_at_call 8; (with_reducible refine (HMSG.out _ (as_own (by assumption))).mono ?_); rintro e w9 ⟨⟨a9, c9, rfl, h91, h92, h93⟩, hb9⟩; have hcv9 := conv_lays (cap := c9) h93 HNE.out) | (go_at_call 9; (with_reducible refine (HRUL.out _ (as_own (by assumption))).mono ?_); rintro e w9 ⟨⟨a9, c9, rfl, h91, h92, h93⟩, hb9⟩; have hcv9 := conv_lays (cap := c9) h93 HNE.out) | (go_at_call 10; (with_reducible refine (HACL.out _ (as_own (by assumption))).mono ?_); rintro e w9 ⟨rfl, hb9⟩)); refine hK.out _ _ ?_ (fun hq2 => ?_)) | ((first | (go_at_call 8; (with_reducible refine (HMSG.out _ (as_own (by assumption))).mono ?_); rintro e w9 ⟨⟨a9, c9, rfl, h91, h92, h93⟩, hb9⟩; have hcv9 := conv_lays (cap := c9) h93 HNE.out) | (go_at_call 9; (with_reducible refine (HRUL.out _ (as_own (by assumption))).mono ?_); rintro e w9 ⟨⟨a9, c9, rfl, h91, h92, h93⟩, hb9⟩; have hcv9 := conv_lays (cap := c9) h93 HNE.out) | (go_at_call 10; (with_reducible refine (HACL.out _ (as_own (by assumption))).mono ?_); rintro e w9 ⟨rfl, hb9⟩)); go_wp2_with fail; refine hK.out _ _ ?_ (fun hq2 => ?_)) | fail
    · ((try dsimp only); (first | exact as_of HX9.out HR9.out HCV.out (bdrewN (Below.refl _ _) 1) | assumption | exact as_of HX9.out HR9.out HCV.out (btrans (as_own (by assumption)) (by assumption))))
    clear hK K
    (try simp only [Act.put, List.setIfInBounds_toArray, List.set_cons_zero, List.set_cons_succ])
    clear hq1
    (refine wpAnyH_take (i := 7) (oi := ?_) (v := ?_) ?_ (by kernel_rfl) (by kernel_rfl) (by kernel_rfl) ?_ (Or.inl ⟨?_, ?_⟩) (by assumption) ?_; rotate_left 2; (· (simp only [List.getElem?_toArray, List.getElem?_cons_succ, List.getElem?_cons_zero]; first | done | rfl)); (· exact (fun _ _ _ h => h)); (· rfl); (· (intro w hSw; (try dsimp only at hSw); go_simp; (try with_reducible rfl))))
    (try simp only [Act.put, List.setIfInBounds_toArray, List.set_cons_zero, List.set_cons_succ])
    (refine wpAnyH_take (i := 8) (oi := ?_) (v := ?_) ?_ (by kernel_rfl) (by kernel_rfl) (by kernel_rfl) ?_ (Or.inl ⟨?_, ?_⟩) (by assumption) ?_; rotate_left 2; (· (simp only [List.getElem?_toArray, List.getElem?_cons_succ, List.getElem?_cons_zero]; first | done | rfl)); (· exact (fun _ _ _ h => h)); (· rfl); (· (intro w hSw; (try dsimp only at hSw); go_simp; (try with_reducible rfl))))
    (try simp only [Act.put, List.setIfInBounds_toArray, List.set_cons_zero, List.set_cons_succ])
    (refine wpAnyH_take (i := 9) (oi := ?_) (v := ?_) ?_ (by kernel_rfl) (by kernel_rfl) (by kernel_rfl) ?_ (Or.inl ⟨?_, ?_⟩) (by assumption) ?_; rotate_left 2; (· (simp only [List.getElem?_toArray, List.getElem?_cons_succ, List.getElem?_cons_zero]; first | done | rfl)); (· exact (fun _ _ _ h => h)); (· rfl); (· (intro w hSw; (try dsimp only at hSw); go_simp; (try with_reducible rfl))))
    (try simp only [Act.put, List.setIfInBounds_toArray, List.set_cons_zero, List.set_cons_succ])
    (refine wpAnyH_take (i := 10) (oi := ?_) (v := ?_) ?_ (by kernel_rfl) (by kernel_rfl) (by kernel_rfl) ?_ (Or.inl ⟨?_, ?_⟩) (by assumption) ?_; rotate_left 2; (· (simp only [List.getElem?_toArray, List.getElem?_cons_succ, List.getElem?_cons_zero]; first | done | rfl)); (· exact (fun _ _ _ h => h)); (· rfl); (· (intro w hSw; (try dsimp only at hSw); go_simp; (try with_reducible rfl))))
    (try simp only [Act.put, List.setIfInBounds_toArray, List.set_cons_zero, List.set_cons_succ])
    (refine wpAnyH_take (i := 11) (oi := ?_) (v := ?_) ?_ (by kernel_rfl) (by kernel_rfl) (by kernel_rfl) ?_ (Or.inl ⟨?_, ?_⟩) (by assumption) ?_; rotate_left 2; (· (simp only [List.getElem?_toArray, List.getElem?_cons_succ, List.getElem?_cons_zero]; first | done | rfl)); (· exact (fun _ _ _ h => h)); (· rfl); (· (intro w hSw; (try dsimp only at hSw); go_simp; (try with_reducible rfl))))
    (try simp only [Act.put, List.setIfInBounds_toArray, List.set_cons_zero, List.set_cons_succ])
    (refine wpAnyH_take (i := 12) (oi := ?_) (v := ?_) ?_ (by kernel_rfl) (by kernel_rfl) (by kernel_rfl) ?_ (Or.inr ⟨?_, ?_⟩) (by assumption) ?_; rotate_left 2; (· (simp only [List.getElem?_toArray, List.getElem?_cons_succ, List.getElem?_cons_zero]; first | done | rfl)); (· exact (fun _ _ _ h => h)); (· rfl); (· rfl))
    (try simp only [Act.put, List.setIfInBounds_toArray, List.set_cons_zero, List.set_cons_succ])
    (refine wpAnyH_take (i := 13) (oi := ?_) (v := ?_) ?_ (by kernel_rfl) (by kernel_rfl) (by kernel_rfl) ?_ (Or.inr ⟨?_, ?_⟩) (by assumption) ?_; rotate_left 2; (· (simp only [List.getElem?_toArray, List.getElem?_cons_succ, List.getElem?_cons_zero]; first | done | rfl)); (· exact (fun _ _ _ h => h)); (· rfl); (· rfl))
    (try simp only [Act.put, List.setIfInBounds_toArray, List.set_cons_zero, List.set_cons_succ])
    (refine wpAnyH_take (i := 14) (oi := ?_) (v := ?_) ?_ (by kernel_rfl) (by kernel_rfl) (by kernel_rfl) ?_ (Or.inr ⟨?_, ?_⟩) (by assumption) ?_; rotate_left 2; (· (simp only [List.getElem?_toArray, List.getElem?_cons_succ, List.getElem?_cons_zero]; first | done | rfl)); (· exact (fun _ _ _ h => h)); (· rfl); (· rfl))
    (try simp only [Act.put, List.setIfInBounds_toArray, List.set_cons_zero, List.set_cons_succ])
    (refine wpAnyH_take (i := 15) (oi := ?_) (v := ?_) ?_ (by kernel_rfl) (by kernel_rfl) (by kernel_rfl) ?_ (Or.inr ⟨?_, ?_⟩) (by assumption) ?_; rotate_left 2; (· (simp only [List.getElem?_toArray, List.getElem?_cons_succ, List.getElem?_cons_zero]; first | done | rfl)); (· exact (fun _ _ _ h => h)); (· rfl); (· rfl))
    (try simp only [Act.put, List.setIfInBounds_toArray, List.set_cons_zero, List.set_cons_succ])
    (refine wpAnyH_take (i := 16) (oi := ?_) (v := ?_) ?_ (by kernel_rfl) (by kernel_rfl) (by kernel_rfl) ?_ (Or.inr ⟨?_, ?_⟩) (by assumption) ?_; rotate_left 2; (· (simp only [List.getElem?_toArray, List.getElem?_cons_succ, List.getElem?_cons_zero]; first | done | rfl)); (· exact (fun _ _ _ h => h)); (· rfl); (· rfl))
    (try simp only [Act.put, List.setIfInBounds_toArray, List.set_cons_zero, List.set_cons_succ])
    (refine wpAnyH_take (i := 17) (oi := ?_) (v := ?_) ?_ (by kernel_rfl) (by kernel_rfl) (by kernel_rfl) ?_ (Or.inr ⟨?_, ?_⟩) (by assumption) ?_; rotate_left 2; (· (simp only [List.getElem?_toArray, List.getElem?_cons_succ, List.getElem?_cons_zero]; first | done | rfl)); (· exact (fun _ _ _ h => h)); (· rfl); (· rfl))
    (try simp only [Act.put, List.setIfInBounds_toArray, List.set_cons_zero, List.set_cons_succ])
    (refine wpAnyH_take (i := 18) (oi := ?_) (v := ?_) ?_ (by kernel_rfl) (by kernel_rfl) (by kernel_rfl) ?_ (Or.inr ⟨?_, ?_⟩) (by assumption) ?_; rotate_left 2; (· (simp only [List.getElem?_toArray, List.getElem?_cons_succ, List.getElem?_cons_zero]; first | done | rfl)); (· exact (fun _ _ _ h => h)); (· rfl); (· rfl))
    (try simp only [Act.put, List.setIfInBounds_toArray, List.set_cons_zero, List.set_cons_succ])
    (refine wpAnyH_take (i := 19) (oi := ?_) (v := ?_) ?_ (by kernel_rfl) (by kernel_rfl) (by kernel_rfl) ?_ (Or.inr ⟨?_, ?_⟩) (by assumption) ?_; rotate_left 2; (· (simp only [List.getElem?_toArray, List.getElem?_cons_succ, List.getElem?_cons_zero]; first | done | rfl)); (· exact (fun _ _ _ h => h)); (· rfl); (· rfl))
    (try simp only [Act.put, List.setIfInBounds_toArray, List.set_cons_zero, List.set_cons_succ])
    (refine wpAnyH_take (i := 20) (oi := ?_) (v := ?_) ?_ (by kernel_rfl) (by kernel_rfl) (by kernel_rfl) ?_ (Or.inr ⟨?_, ?_⟩) (by assumption) ?_; rotate_left 2; (· (simp only [List.getElem?_toArray, List.getElem?_cons_succ, List.getElem?_cons_zero]; first | done | rfl)); (· exact (fun _ _ _ h => h)); (· rfl); (· rfl))
    (try simp only [Act.put, List.setIfInBounds_toArray, List.set_cons_zero, List.set_cons_succ])
    (refine wpAnyH_take (i := 21) (oi := ?_) (v := ?_) ?_ (by kernel_rfl) (by kernel_rfl) (by kernel_rfl) ?_ (Or.inr ⟨?_, ?_⟩) (by assumption) ?_; rotate_left 2; (· (simp only [List.getElem?_toArray, List.getElem?_cons_succ, List.getElem?_cons_zero]; first | done | rfl)); (· exact (fun _ _ _ h => h)); (· rfl); (· rfl))
    (try simp only [Act.put, List.setIfInBounds_toArray, List.set_cons_zero, List.set_cons_succ])
    (refine wpAnyH_take (i := 22) (oi := ?_) (v := ?_) ?_ (by kernel_rfl) (by kernel_rfl) (by kernel_rfl) ?_ (Or.inr ⟨?_, ?_⟩) (by assumption) ?_; rotate_left 2; (· (simp only [List.getElem?_toArray, List.getElem?_cons_succ, List.getElem?_cons_zero]; first | done | rfl)); (· exact (fun _ _ _ h => h)); (· rfl); (· rfl))
    (try simp only [Act.put, List.setIfInBounds_toArray, List.set_cons_zero, List.set_cons_succ])
    (refine wpAnyH_take (i := 23) (oi := ?_) (v := ?_) ?_ (by kernel_rfl) (by kernel_rfl) (by kernel_rfl) ?_ (Or.inl ⟨?_, ?_⟩) (by assumption) ?_; rotate_left 2; (· (simp only [List.getElem?_toArray, List.getElem?_cons_succ, List.getElem?_cons_zero]; first | done | rfl)); (· exact (fun _ _ _ h => h)); (· rfl); (· (intro w hSw; (try dsimp only at hSw); go_simp; (try with_reducible rfl))))
    (try simp only [Act.put, List.setIfInBounds_toArray, List.set_cons_zero, List.set_cons_succ])
    (refine wpAnyH_take (i := 24) (oi := ?_) (v := ?_) ?_ (by kernel_rfl) (by kernel_rfl) (by kernel_rfl) ?_ (Or.inl ⟨?_, ?_⟩) (by assumption) ?_; rotate_left 2; (· (simp only [List.getElem?_toArray, List.getElem?_cons_succ, List.getElem?_cons_zero]; first | done | rfl)); (· exact (fun _ _ _ h => h)); (· rfl); (· (intro w hSw; (try dsimp only at hSw); go_simp; (try with_reducible rfl))))
    (try simp only [Act.put, List.setIfInBounds_toArray, List.set_cons_zero, List.set_cons_succ])
    refine wpAnyH_done (by kernel_rfl) ?_ _
    go_wp2_with fail
    go_ret
    exact ⟨rfl, btrans HB9.out (as_own (by assumption))⟩
  · as_aux_lemma =>
    obtain ⟨hne, hms⟩ := HMS.out rfl
    obtain ⟨_, hru, hac⟩ := HRU.out rfl
    have HNE := Lib.hid hne; have HMSG := Lib.hid hms; have HRUL := Lib.hid hru; have HACL := Lib.hid hac
    clear HMS HRU HNO hne hms hru hac
    refine wp_region_held_drew (S := (fun w' => w'.cell? ⟨pm, 0, none⟩ = some (.int .i64 m.kind) ∧ w'.cell? ⟨pm, 1, none⟩ = some (.int .i64 m.at_) ∧ w'.cell? ⟨pm, 2, none⟩ = some (.int .i64 m.r.k.kind) ∧ w'.cell? ⟨pm, 3, none⟩ = some (.int .i64 m.r.k.tenant) ∧ w'.cell? ⟨pm, 4, none⟩ = some (.string ⟨m.r.k.who.toArray⟩) ∧ w'.cell? ⟨pm, 5, none⟩ = some (.int .i64 m.r.br) ∧ w'.cell? ⟨pm, 6, none⟩ = some (.string ⟨m.r.sc.toArray⟩) ∧ w'.cell? ⟨pm, 7, none⟩ = some (.slice m.r.c0 m.r.cn m.r.cc) ∧ w'.cell? ⟨pm, 8, none⟩ = some (.string ⟨m.r.nm.toArray⟩) ∧ w'.cell? ⟨pm, 9, none⟩ = some (.int .i64 m.r.k.pl) ∧ w'.cell? ⟨pm, 10, none⟩ = some (.string ⟨m.fs.toArray⟩) ∧ w'.cell? ⟨pm, 11, none⟩ = some (.slice m.f0 m.fn m.fc) ∧ w'.cell? ⟨pm, 12, none⟩ = some (.string ⟨m.es.toArray⟩) ∧ w'.cell? ⟨pm, 13, none⟩ = some (.slice m.e0 m.en m.ec) ∧ w'.cell? ⟨pm, 14, none⟩ = some (.int .i64 m.ver) ∧ w'.cell? ⟨pm, 15, none⟩ = some (.string ⟨m.org.toArray⟩) ∧ w'.cell? ⟨pm, 16, none⟩ = some (.int .i64 m.ser) ∧ w'.cell? ⟨pr, 0, none⟩ = some (.int .i64 r.k.kind) ∧ w'.cell? ⟨pr, 1, none⟩ = some (.int .i64 r.k.tenant) ∧ w'.cell? ⟨pr, 2, none⟩ = some (.string ⟨r.k.who.toArray⟩) ∧ w'.cell? ⟨pr, 3, none⟩ = some (.int .i64 r.br) ∧ w'.cell? ⟨pr, 4, none⟩ = some (.string ⟨r.sc.toArray⟩) ∧ w'.cell? ⟨pr, 5, none⟩ = some (.slice r.c0 r.cn r.cc) ∧ w'.cell? ⟨pr, 6, none⟩ = some (.string ⟨r.nm.toArray⟩) ∧ w'.cell? ⟨pr, 7, none⟩ = some (.int .i64 r.k.pl) ∧ (convert 22 9 (.slice a0 s.length cap)).run Try.prog w' = .ok (.string ⟨s.toArray⟩) w' ∧ Below W9.heap.size W9 w')) (by kernel_rfl) ?_ (fun hq0 => ?_)
    · ((try dsimp only); (first | exact as_of HX9.out HR9.out HCV.out (bdrewN (Below.refl _ _) 1) | assumption | exact as_of HX9.out HR9.out HCV.out (btrans (as_own (by assumption)) (by assumption))))
    (refine wpAnyH_take (i := 0) (oi := ?_) (v := ?_) ?_ (by kernel_rfl) (by kernel_rfl) (by kernel_rfl) ?_ (Or.inl ⟨?_, ?_⟩) (by assumption) ?_; rotate_left 2; (· (simp only [List.getElem?_toArray, List.getElem?_cons_zero]; first | done | rfl)); (· exact (fun _ _ _ h => h)); (· rfl); (· (intro w hSw; (try dsimp only at hSw); go_simp; (try with_reducible rfl))))
    (try simp only [Act.put, List.setIfInBounds_toArray, List.set_cons_zero, List.set_cons_succ])
    (refine wpAnyH_take (i := 1) (oi := ?_) (v := ?_) ?_ (by kernel_rfl) (by kernel_rfl) (by kernel_rfl) ?_ (Or.inl ⟨?_, ?_⟩) (by assumption) ?_; rotate_left 2; (· (simp only [List.getElem?_toArray, List.getElem?_cons_succ, List.getElem?_cons_zero]; first | done | rfl)); (· exact (fun _ _ _ h => h)); (· rfl); (· (intro w hSw; (try dsimp only at hSw); go_simp; (try with_reducible rfl))))
    (try simp only [Act.put, List.setIfInBounds_toArray, List.set_cons_zero, List.set_cons_succ])
    (refine wpAnyH_take (i := 2) (oi := ?_) (v := ?_) ?_ (by kernel_rfl) (by kernel_rfl) (by kernel_rfl) ?_ (Or.inl ⟨?_, ?_⟩) (by assumption) ?_; rotate_left 2; (· (simp only [List.getElem?_toArray, List.getElem?_cons_succ, List.getElem?_cons_zero]; first | done | rfl)); (· exact (fun _ _ _ h => h)); (· rfl); (· (intro w hSw; (try dsimp only at hSw); go_simp; (try with_reducible rfl))))
    (try simp only [Act.put, List.setIfInBounds_toArray, List.set_cons_zero, List.set_cons_succ])
    (refine wpAnyH_take (i := 5) (oi := ?_) (v := ?_) ?_ (by kernel_rfl) (by kernel_rfl) (by kernel_rfl) ?_ (Or.inl ⟨?_, ?_⟩) (by assumption) ?_; rotate_left 2; (· (simp only [List.getElem?_toArray, List.getElem?_cons_succ, List.getElem?_cons_zero]; first | done | rfl)); (· exact (fun _ _ _ h => h)); (· rfl); (· (intro w hSw; (try dsimp only at hSw); go_simp; (try with_reducible rfl))))
    (try simp only [Act.put, List.setIfInBounds_toArray, List.set_cons_zero, List.set_cons_succ])
    (refine wpAnyH_take (i := 6) (oi := ?_) (v := ?_) ?_ (by kernel_rfl) (by kernel_rfl) (by kernel_rfl) ?_ (Or.inl ⟨?_, ?_⟩) (by assumption) ?_; rotate_left 2; (· (simp only [List.getElem?_toArray, List.getElem?_cons_succ, List.getElem?_cons_zero]; first | done | rfl)); (· exact (fun _ _ _ h => h)); (· rfl); (· (intro w hSw; (try dsimp only at hSw); go_simp; (try with_reducible rfl))))
    (try simp only [Act.put, List.setIfInBounds_toArray, List.set_cons_zero, List.set_cons_succ])
    refine wpAnyH_ready (rs := [3]) (by kernel_rfl) (by simp) ?_
    refine AllReadyH.cons (o := ?_) ?_ (fun K hK => ?_) AllReadyH.nil
    rotate_left 1
    · (simp only [List.getElem?_toArray, List.getElem?_cons_succ, List.getElem?_cons_zero]; first | done | rfl)
    go_simp
    first | (refine hK.out _ _ ?_ (fun hq1 => ?_)) | ((first | (go_at_call 8; (with_reducible refine (HMSG.out _ (as_own (by assumption))).mono ?_); rintro e w9 ⟨⟨a9, c9, rfl, h91, h92, h93⟩, hb9⟩; have hcv9 := conv_lays (cap := c9) h93 HNE.out) | (go_at_call 9; (with_reducible refine (HRUL.out _ (as_own (by assumption))).mono ?_); rintro e w9 ⟨⟨a9, c9, rfl, h91, h92, h93⟩, hb9⟩; have hcv9 := conv_lays (cap := c9) h93 HNE.out) | (go_at_call 10; (with_reducible refine (HACL.out _ (as_own (by assumption))).mono ?_); rintro e w9 ⟨rfl, hb9⟩)); refine hK.out _ _ ?_ (fun hq1 => ?_)) | ((first | (go_at_call 8; (with_reducible refine (HMSG.out _ (as_own (by assumption))).mono ?_); rintro e w9 ⟨⟨a9, c9, rfl, h91, h92, h93⟩, hb9⟩; have hcv9 := conv_lays (cap := c9) h93 HNE.out) | (go_at_call 9; (with_reducible refine (HRUL.out _ (as_own (by assumption))).mono ?_); rintro e w9 ⟨⟨a9, c9, rfl, h91, h92, h93⟩, hb9⟩; have hcv9 := conv_lays (cap := c9) h93 HNE.out) | (go_at_call 10; (with_reducible refine (HACL.out _ (as_own (by assumption))).mono ?_); rintro e w9 ⟨rfl, hb9⟩)); go_wp2_with fail; refine hK.out _ _ ?_ (fun hq1 => ?_)) | fail
    · ((try dsimp only); (first | exact as_of HX9.out HR9.out HCV.out (bdrewN (Below.refl _ _) 1) | assumption | exact as_of HX9.out HR9.out HCV.out (btrans (as_own (by assumption)) (by assumption))))
    clear hK K
    (try simp only [Act.put, List.setIfInBounds_toArray, List.set_cons_zero, List.set_cons_succ])
    clear hq0
    refine wpAnyH_ready (rs := [4]) (by kernel_rfl) (by simp) ?_
    refine AllReadyH.cons (o := ?_) ?_ (fun K hK => ?_) AllReadyH.nil
    rotate_left 1
    · (simp only [List.getElem?_toArray, List.getElem?_cons_succ, List.getElem?_cons_zero]; first | done | rfl)
    go_simp
    first | (refine hK.out _ _ ?_ (fun hq2 => ?_)) | ((first | (go_at_call 8; (with_reducible refine (HMSG.out _ (as_own (by assumption))).mono ?_); rintro e w9 ⟨⟨a9, c9, rfl, h91, h92, h93⟩, hb9⟩; have hcv9 := conv_lays (cap := c9) h93 HNE.out) | (go_at_call 9; (with_reducible refine (HRUL.out _ (as_own (by assumption))).mono ?_); rintro e w9 ⟨⟨a9, c9, rfl, h91, h92, h93⟩, hb9⟩; have hcv9 := conv_lays (cap := c9) h93 HNE.out) | (go_at_call 10; (with_reducible refine (HACL.out _ (as_own (by assumption))).mono ?_); rintro e w9 ⟨rfl, hb9⟩)); refine hK.out _ _ ?_ (fun hq2 => ?_)) | ((first | (go_at_call 8; (with_reducible refine (HMSG.out _ (as_own (by assumption))).mono ?_); rintro e w9 ⟨⟨a9, c9, rfl, h91, h92, h93⟩, hb9⟩; have hcv9 := conv_lays (cap := c9) h93 HNE.out) | (go_at_call 9; (with_reducible refine (HRUL.out _ (as_own (by assumption))).mono ?_); rintro e w9 ⟨⟨a9, c9, rfl, h91, h92, h93⟩, hb9⟩; have hcv9 := conv_lays (cap := c9) h93 HNE.out) | (go_at_call 10; (with_reducible refine (HACL.out _ (as_own (by assumption))).mono ?_); rintro e w9 ⟨rfl, hb9⟩)); go_wp2_with fail; refine hK.out _ _ ?_ (fun hq2 => ?_)) | fail
    · ((try dsimp only); (first | exact as_of HX9.out HR9.out HCV.out (bdrewN (Below.refl _ _) 1) | assumption | exact as_of HX9.out HR9.out HCV.out (btrans (as_own (by assumption)) (by assumption))))
    clear hK K
    (try simp only [Act.put, List.setIfInBounds_toArray, List.set_cons_zero, List.set_cons_succ])
    clear hq1
    (refine wpAnyH_take (i := 7) (oi := ?_) (v := ?_) ?_ (by kernel_rfl) (by kernel_rfl) (by kernel_rfl) ?_ (Or.inl ⟨?_, ?_⟩) (by assumption) ?_; rotate_left 2; (· (simp only [List.getElem?_toArray, List.getElem?_cons_succ, List.getElem?_cons_zero]; first | done | rfl)); (· exact (fun _ _ _ h => h)); (· rfl); (· (intro w hSw; (try dsimp only at hSw); go_simp; (try with_reducible rfl))))
    (try simp only [Act.put, List.setIfInBounds_toArray, List.set_cons_zero, List.set_cons_succ])
    (refine wpAnyH_take (i := 8) (oi := ?_) (v := ?_) ?_ (by kernel_rfl) (by kernel_rfl) (by kernel_rfl) ?_ (Or.inl ⟨?_, ?_⟩) (by assumption) ?_; rotate_left 2; (· (simp only [List.getElem?_toArray, List.getElem?_cons_succ, List.getElem?_cons_zero]; first | done | rfl)); (· exact (fun _ _ _ h => h)); (· rfl); (· (intro w hSw; (try dsimp only at hSw); go_simp; (try with_reducible rfl))))
    (try simp only [Act.put, List.setIfInBounds_toArray, List.set_cons_zero, List.set_cons_succ])
    (refine wpAnyH_take (i := 9) (oi := ?_) (v := ?_) ?_ (by kernel_rfl) (by kernel_rfl) (by kernel_rfl) ?_ (Or.inl ⟨?_, ?_⟩) (by assumption) ?_; rotate_left 2; (· (simp only [List.getElem?_toArray, List.getElem?_cons_succ, List.getElem?_cons_zero]; first | done | rfl)); (· exact (fun _ _ _ h => h)); (· rfl); (· (intro w hSw; (try dsimp only at hSw); go_simp; (try with_reducible rfl))))
    (try simp only [Act.put, List.setIfInBounds_toArray, List.set_cons_zero, List.set_cons_succ])
    (refine wpAnyH_take (i := 10) (oi := ?_) (v := ?_) ?_ (by kernel_rfl) (by kernel_rfl) (by kernel_rfl) ?_ (Or.inl ⟨?_, ?_⟩) (by assumption) ?_; rotate_left 2; (· (simp only [List.getElem?_toArray, List.getElem?_cons_succ, List.getElem?_cons_zero]; first | done | rfl)); (· exact (fun _ _ _ h => h)); (· rfl); (· (intro w hSw; (try dsimp only at hSw); go_simp; (try with_reducible rfl))))
    (try simp only [Act.put, List.setIfInBounds_toArray, List.set_cons_zero, List.set_cons_succ])
    (refine wpAnyH_take (i := 11) (oi := ?_) (v := ?_) ?_ (by kernel_rfl) (by kernel_rfl) (by kernel_rfl) ?_ (Or.inl ⟨?_, ?_⟩) (by assumption) ?_; rotate_left 2; (· (simp only [List.getElem?_toArray, List.getElem?_cons_succ, List.getElem?_cons_zero]; first | done | rfl)); (· exact (fun _ _ _ h => h)); (· rfl); (· (intro w hSw; (try dsimp only at hSw); go_simp; (try with_reducible rfl))))
    (try simp only [Act.put, List.setIfInBounds_toArray, List.set_cons_zero, List.set_cons_succ])
    (refine wpAnyH_take (i := 12) (oi := ?_) (v := ?_) ?_ (by kernel_rfl) (by kernel_rfl) (by kernel_rfl) ?_ (Or.inl ⟨?_, ?_⟩) (by assumption) ?_; rotate_left 2; (· (simp only [List.getElem?_toArray, List.getElem?_cons_succ, List.getElem?_cons_zero]; first | done | rfl)); (· exact (fun _ _ _ h => h)); (· rfl); (· (intro w hSw; (try dsimp only at hSw); go_simp; (try with_reducible rfl))))
    (try simp only [Act.put, List.setIfInBounds_toArray, List.set_cons_zero, List.set_cons_succ])
    (refine wpAnyH_take (i := 15) (oi := ?_) (v := ?_) ?_ (by kernel_rfl) (by kernel_rfl) (by kernel_rfl) ?_ (Or.inl ⟨?_, ?_⟩) (by assumption) ?_; rotate_left 2; (· (simp only [List.getElem?_toArray, List.getElem?_cons_succ, List.getElem?_cons_zero]; first | done | rfl)); (· exact (fun _ _ _ h => h)); (· rfl); (· (intro w hSw; (try dsimp only at hSw); go_simp; (try with_reducible rfl))))
    (try simp only [Act.put, List.setIfInBounds_toArray, List.set_cons_zero, List.set_cons_succ])
    (refine wpAnyH_take (i := 16) (oi := ?_) (v := ?_) ?_ (by kernel_rfl) (by kernel_rfl) (by kernel_rfl) ?_ (Or.inl ⟨?_, ?_⟩) (by assumption) ?_; rotate_left 2; (· (simp only [List.getElem?_toArray, List.getElem?_cons_succ, List.getElem?_cons_zero]; first | done | rfl)); (· exact (fun _ _ _ h => h)); (· rfl); (· (intro w hSw; (try dsimp only at hSw); go_simp; (try with_reducible rfl))))
    (try simp only [Act.put, List.setIfInBounds_toArray, List.set_cons_zero, List.set_cons_succ])
    refine wpAnyH_ready (rs := [13]) (by kernel_rfl) (by simp) ?_
    refine AllReadyH.cons (o := ?_) ?_ (fun K hK => ?_) AllReadyH.nil
    rotate_left 1
    · (simp only [List.getElem?_toArray, List.getElem?_cons_succ, List.getElem?_cons_zero]; first | done | rfl)
    go_simp
    first | (refine hK.out _ _ ?_ (fun hq3 => ?_)) | ((first | (go_at_call 8; (with_reducible refine (HMSG.out _ (as_own (by assumption))).mono ?_); rintro e w9 ⟨⟨a9, c9, rfl, h91, h92, h93⟩, hb9⟩; have hcv9 := conv_lays (cap := c9) h93 HNE.out) | (go_at_call 9; (with_reducible refine (HRUL.out _ (as_own (by assumption))).mono ?_); rintro e w9 ⟨⟨a9, c9, rfl, h91, h92, h93⟩, hb9⟩; have hcv9 := conv_lays (cap := c9) h93 HNE.out) | (go_at_call 10; (with_reducible refine (HACL.out _ (as_own (by assumption))).mono ?_); rintro e w9 ⟨rfl, hb9⟩)); refine hK.out _ _ ?_ (fun hq3 => ?_)) | ((first | (go_at_call 8; (with_reducible refine (HMSG.out _ (as_own (by assumption))).mono ?_); rintro e w9 ⟨⟨a9, c9, rfl, h91, h92, h93⟩, hb9⟩; have hcv9 := conv_lays (cap := c9) h93 HNE.out) | (go_at_call 9; (with_reducible refine (HRUL.out _ (as_own (by assumption))).mono ?_); rintro e w9 ⟨⟨a9, c9, rfl, h91, h92, h93⟩, hb9⟩; have hcv9 := conv_lays (cap := c9) h93 HNE.out) | (go_at_call 10; (with_reducible refine (HACL.out _ (as_own (by assumption))).mono ?_); rintro e w9 ⟨rfl, hb9⟩)); go_wp2_with fail; refine hK.out _ _ ?_ (fun hq3 => ?_)) | fail
    · ((try dsimp only); (first | exact as_of HX9.out HR9.out HCV.out (bdrewN (Below.refl _ _) 1) | assumption | exact as_of HX9.out HR9.out HCV.out (btrans (as_own (by assumption)) (by assumption))))
    clear hK K
    (try simp only [Act.put, List.setIfInBounds_toArray, List.set_cons_zero, List.set_cons_succ])
    clear hq2
    refine wpAnyH_ready (rs := [14]) (by kernel_rfl) (by simp) ?_
    refine AllReadyH.cons (o := ?_) ?_ (fun K hK => ?_) AllReadyH.nil
    rotate_left 1
    · (simp only [List.getElem?_toArray, List.getElem?_cons_succ, List.getElem?_cons_zero]; first | done | rfl)
    go_simp
    first | (refine hK.out _ _ ?_ (fun hq4 => ?_)) | ((first | (go_at_call 8; (with_reducible refine (HMSG.out _ (as_own (by assumption))).mono ?_); rintro e w9 ⟨⟨a9, c9, rfl, h91, h92, h93⟩, hb9⟩; have hcv9 := conv_lays (cap := c9) h93 HNE.out) | (go_at_call 9; (with_reducible refine (HRUL.out _ (as_own (by assumption))).mono ?_); rintro e w9 ⟨⟨a9, c9, rfl, h91, h92, h93⟩, hb9⟩; have hcv9 := conv_lays (cap := c9) h93 HNE.out) | (go_at_call 10; (with_reducible refine (HACL.out _ (as_own (by assumption))).mono ?_); rintro e w9 ⟨rfl, hb9⟩)); refine hK.out _ _ ?_ (fun hq4 => ?_)) | ((first | (go_at_call 8; (with_reducible refine (HMSG.out _ (as_own (by assumption))).mono ?_); rintro e w9 ⟨⟨a9, c9, rfl, h91, h92, h93⟩, hb9⟩; have hcv9 := conv_lays (cap := c9) h93 HNE.out) | (go_at_call 9; (with_reducible refine (HRUL.out _ (as_own (by assumption))).mono ?_); rintro e w9 ⟨⟨a9, c9, rfl, h91, h92, h93⟩, hb9⟩; have hcv9 := conv_lays (cap := c9) h93 HNE.out) | (go_at_call 10; (with_reducible refine (HACL.out _ (as_own (by assumption))).mono ?_); rintro e w9 ⟨rfl, hb9⟩)); go_wp2_with fail; refine hK.out _ _ ?_ (fun hq4 => ?_)) | fail
    · ((try dsimp only); (first | exact as_of HX9.out HR9.out HCV.out (bdrewN (Below.refl _ _) 1) | assumption | exact as_of HX9.out HR9.out HCV.out (btrans (as_own (by assumption)) (by assumption))))
    clear hK K
    (try simp only [Act.put, List.setIfInBounds_toArray, List.set_cons_zero, List.set_cons_succ])
    clear hq3
    (refine wpAnyH_take (i := 17) (oi := ?_) (v := ?_) ?_ (by kernel_rfl) (by kernel_rfl) (by kernel_rfl) ?_ (Or.inl ⟨?_, ?_⟩) (by assumption) ?_; rotate_left 2; (· (simp only [List.getElem?_toArray, List.getElem?_cons_succ, List.getElem?_cons_zero]; first | done | rfl)); (· exact (fun _ _ _ h => h)); (· rfl); (· (intro w hSw; (try dsimp only at hSw); go_simp; (try with_reducible rfl))))
    (try simp only [Act.put, List.setIfInBounds_toArray, List.set_cons_zero, List.set_cons_succ])
    (refine wpAnyH_take (i := 18) (oi := ?_) (v := ?_) ?_ (by kernel_rfl) (by kernel_rfl) (by kernel_rfl) ?_ (Or.inl ⟨?_, ?_⟩) (by assumption) ?_; rotate_left 2; (· (simp only [List.getElem?_toArray, List.getElem?_cons_succ, List.getElem?_cons_zero]; first | done | rfl)); (· exact (fun _ _ _ h => h)); (· rfl); (· (intro w hSw; (try dsimp only at hSw); go_simp; (try with_reducible rfl))))
    (try simp only [Act.put, List.setIfInBounds_toArray, List.set_cons_zero, List.set_cons_succ])
    (refine wpAnyH_take (i := 19) (oi := ?_) (v := ?_) ?_ (by kernel_rfl) (by kernel_rfl) (by kernel_rfl) ?_ (Or.inl ⟨?_, ?_⟩) (by assumption) ?_; rotate_left 2; (· (simp only [List.getElem?_toArray, List.getElem?_cons_succ, List.getElem?_cons_zero]; first | done | rfl)); (· exact (fun _ _ _ h => h)); (· rfl); (· (intro w hSw; (try dsimp only at hSw); go_simp; (try with_reducible rfl))))
    (try simp only [Act.put, List.setIfInBounds_toArray, List.set_cons_zero, List.set_cons_succ])
    refine wpAnyH_ready (rs := [20]) (by kernel_rfl) (by simp) ?_
    refine AllReadyH.cons (o := ?_) ?_ (fun K hK => ?_) AllReadyH.nil
    rotate_left 1
    · (simp only [List.getElem?_toArray, List.getElem?_cons_succ, List.getElem?_cons_zero]; first | done | rfl)
    go_simp
    first | (refine hK.out _ _ ?_ (fun hq5 => ?_)) | ((first | (go_at_call 8; (with_reducible refine (HMSG.out _ (as_own (by assumption))).mono ?_); rintro e w9 ⟨⟨a9, c9, rfl, h91, h92, h93⟩, hb9⟩; have hcv9 := conv_lays (cap := c9) h93 HNE.out) | (go_at_call 9; (with_reducible refine (HRUL.out _ (as_own (by assumption))).mono ?_); rintro e w9 ⟨⟨a9, c9, rfl, h91, h92, h93⟩, hb9⟩; have hcv9 := conv_lays (cap := c9) h93 HNE.out) | (go_at_call 10; (with_reducible refine (HACL.out _ (as_own (by assumption))).mono ?_); rintro e w9 ⟨rfl, hb9⟩)); refine hK.out _ _ ?_ (fun hq5 => ?_)) | ((first | (go_at_call 8; (with_reducible refine (HMSG.out _ (as_own (by assumption))).mono ?_); rintro e w9 ⟨⟨a9, c9, rfl, h91, h92, h93⟩, hb9⟩; have hcv9 := conv_lays (cap := c9) h93 HNE.out) | (go_at_call 9; (with_reducible refine (HRUL.out _ (as_own (by assumption))).mono ?_); rintro e w9 ⟨⟨a9, c9, rfl, h91, h92, h93⟩, hb9⟩; have hcv9 := conv_lays (cap := c9) h93 HNE.out) | (go_at_call 10; (with_reducible refine (HACL.out _ (as_own (by assumption))).mono ?_); rintro e w9 ⟨rfl, hb9⟩)); go_wp2_with fail; refine hK.out _ _ ?_ (fun hq5 => ?_)) | fail
    · ((try dsimp only); (first | exact as_of HX9.out HR9.out HCV.out (bdrewN (Below.refl _ _) 1) | assumption | exact as_of HX9.out HR9.out HCV.out (btrans (as_own (by assumption)) (by assumption))))
    clear hK K
    (try simp only [Act.put, List.setIfInBounds_toArray, List.set_cons_zero, List.set_cons_succ])
    clear hq4
    (refine wpAnyH_take (i := 21) (oi := ?_) (v := ?_) ?_ (by kernel_rfl) (by kernel_rfl) (by kernel_rfl) ?_ (Or.inl ⟨?_, ?_⟩) (by assumption) ?_; rotate_left 2; (· (simp only [List.getElem?_toArray, List.getElem?_cons_succ, List.getElem?_cons_zero]; first | done | rfl)); (· exact (fun _ _ _ h => h)); (· rfl); (· (intro w hSw; (try dsimp only at hSw); go_simp; (try with_reducible rfl))))
    (try simp only [Act.put, List.setIfInBounds_toArray, List.set_cons_zero, List.set_cons_succ])
    (refine wpAnyH_take (i := 22) (oi := ?_) (v := ?_) ?_ (by kernel_rfl) (by kernel_rfl) (by kernel_rfl) ?_ (Or.inl ⟨?_, ?_⟩) (by assumption) ?_; rotate_left 2; (· (simp only [List.getElem?_toArray, List.getElem?_cons_succ, List.getElem?_cons_zero]; first | done | rfl)); (· exact (fun _ _ _ h => h)); (· rfl); (· (intro w hSw; (try dsimp only at hSw); go_simp; (try with_reducible rfl))))
    (try simp only [Act.put, List.setIfInBounds_toArray, List.set_cons_zero, List.set_cons_succ])
    (refine wpAnyH_take (i := 23) (oi := ?_) (v := ?_) ?_ (by kernel_rfl) (by kernel_rfl) (by kernel_rfl) ?_ (Or.inl ⟨?_, ?_⟩) (by assumption) ?_; rotate_left 2; (· (simp only [List.getElem?_toArray, List.getElem?_cons_succ, List.getElem?_cons_zero]; first | done | rfl)); (· exact (fun _ _ _ h => h)); (· rfl); (· (intro w hSw; (try dsimp only at hSw); go_simp; (try with_reducible rfl))))
    (try simp only [Act.put, List.setIfInBounds_toArray, List.set_cons_zero, List.set_cons_succ])
    (refine wpAnyH_take (i := 24) (oi := ?_) (v := ?_) ?_ (by kernel_rfl) (by kernel_rfl) (by kernel_rfl) ?_ (Or.inl ⟨?_, ?_⟩) (by assumption) ?_; rotate_left 2; (· (simp only [List.getElem?_toArray, List.getElem?_cons_succ, List.getElem?_cons_zero]; first | done | rfl)); (· exact (fun _ _ _ h => h)); (· rfl); (· (intro w hSw; (try dsimp only at hSw); go_simp; (try with_reducible rfl))))
    (try simp only [Act.put, List.setIfInBounds_toArray, List.set_cons_zero, List.set_cons_succ])
    refine wpAnyH_done (by kernel_rfl) ?_ _
    go_wp2_with fail
    go_ret
    exact ⟨rfl, btrans HB9.out (as_own (by assumption))⟩
end Go.Proofs.Ytpbdgbejcdncgaa.Wire
end

section
/- A SLICE OF BYTES AS AN ARGUMENT. -/
namespace Go.Proofs.Ytpbdgbejcdncgaa.Open
open Go.ChangeShapes Go.WideShapes Go.ChangeAt Go.RowKit Go.Deep
section
variable {H : Type} {enc : TypeId × Value → H} {w : World} {base : Nat} {spare : Nat → Bool} {held : Bool}
set_option maxRecDepth 100000 in
theorem open_by {r : Reach} {b0 : Nat} {v : Value} {d : DataW H} {p : List MemPlace} (hv : Value.okWide Try.prog w r b0 22 v) (h : DataW.Trod enc Try.prog w base spare held 22 v d p) :
    ∃ (o : Option Addr) (cap : Nat) (l : List UInt8), v = .slice o l.length cap ∧ l.length ≤ cap ∧ cap ≤ maxLen ∧ (o = none → cap = 0) ∧ Wire.BytesAt w o l := by
  have hu : Try.prog.underlying 22 = some (.slice 5) := Try.underlying22
  have hce : Try.prog.cellsOf 5 = 1 := by kernel_rfl
  obtain ⟨a0, ln, cp, rfl⟩ := okWide_slice hu hv
  obtain ⟨fuel, hf⟩ := h
  rcases open_ints hu Try.underlying5 hce hf with ⟨h0, _⟩ | ⟨a, len, cap, zs, h0, _, hl, hm, hz, _, hcell, hwz⟩
  · have he : (a0 = none ∧ ln = 0 ∧ cp = 0) := by simpa [Value.cells] using h0
    obtain ⟨rfl, rfl, rfl⟩ := he
    exact ⟨none, 0, [], rfl, Nat.le_refl _, Nat.zero_le _, fun _ => rfl, fun i hi => absurd hi (by simp)⟩
  · have he : (a0 = some a ∧ ln = len ∧ cp = cap) := by simpa [Value.cells] using h0
    obtain ⟨rfl, rfl, rfl⟩ := he
    have hls : ln ≤ zs.length := by rw [hz]; split <;> omega
    have hlen : ((zs.take ln).map (fun n : Int => UInt8.ofNat n.toNat)).length = ln := by rw [List.length_map, List.length_take]; omega
    refine ⟨some a, cp, (zs.take ln).map (fun n : Int => UInt8.ofNat n.toNat), (by rw [hlen]), (by rw [hlen]; exact hl), hm, (fun h => by cases h), fun j hj => ⟨a, rfl, ?_⟩⟩
    rw [hlen] at hj
    rw [hcell j (by omega)]
    have hb := range_u8 hwz j
    simp only [List.getElem_map, List.getElem_take]
    have e : zs.getD j 0 = zs[j]'(by omega) := by simp [List.getD, List.getElem?_eq_getElem (show j < zs.length by omega)]
    rw [List.getD_eq_getElem?_getD] at e
    rw [e] at hb
    rw [List.getD_eq_getElem?_getD, e]
    congr 2
    simp only [UInt8.toNat_ofNat']
    omega
end
end Go.Proofs.Ytpbdgbejcdncgaa.Open
end

section
/- THE FRAME OF EVERY LAW OF THIS SEAT: a law that returns true and leaves all that was there as it was meets its given post. -/
namespace Go.Proofs.Ytpbdgbejcdncgaa.Frame
open Go.ChangeShapes Go.WideShapes Go.ChangeAt Go.RowKit

theorem own : ownKnob Try.prog.godebug = none := by kernel_rfl
theorem laidOut : laidOutB Try.prog = true := by kernel_rfl

section
variable {H : Type} {enc : TypeId × Value → H} {P : Program}
/-- the types of the parameters can be read -/
def rowed (P : Program) (ts : List TypeId) : Bool := ts.all fun t => P.readableRec t && decide (t < P.types.size)

theorem trodAll_below (hl : laidOutB P = true) {W W' : World} (hb : Below W.heap.size W W') :
    ∀ {ts : List TypeId} {vs : List Value} {ds : List (DataW H)} {ps : List MemPlace}, rowed P ts = true →
      DataW.TrodAll enc P W 0 (fun _ => true) true ts vs ds ps → DataW.TrodAll enc P W' 0 (fun b => decide (b < W.heap.size)) true ts vs ds ps
  | [], [], [], _, _, h => h
  | [], [], _ :: _, _, _, h => h.elim
  | [], _ :: _, _, _, _, h => by cases ‹List (DataW H)› <;> exact h.elim
  | _ :: _, [], _, _, _, h => h.elim
  | _ :: _, _ :: _, [], _, _, h => h.elim
  | t :: ts, v :: vs, d :: ds, ps, hv, h => by
    have hlt := h.lt
    obtain ⟨p, q, h1, h2, e⟩ := h
    simp only [rowed, List.all_cons, Bool.and_eq_true, decide_eq_true_eq] at hv
    exact ⟨p, q, Below.trod hl hv.1.1 hv.1.2 h1 hb (fun x hx => hlt x (by rw [e]; simp [hx])), trodAll_below hl hb (by simpa [rowed] using hv.2) h2, e⟩

theorem law_post {f : Func} {s : ChangeSpec} {W W' : World} {args : Array Value} {ds gs : List (DataW H)} {before : List MemPlace} {tb : TypeId}
    (hl : laidOutB P = true) (hp : rowed P f.params.toList = true) (hv : varsRowed P s.vars = true)
    (hr : f.resultTypes = #[tb]) (hu : P.underlying tb = some .bool)
    (hs : (s.fn H (ds ++ gs)).results = [.lit (.bool true)]) (ha : (s.fn H (ds ++ gs)).args = ds) (hg : (s.fn H (ds ++ gs)).vars = gs)
    (hW : DataW.Whole enc P f.params.toList s.vars false W args.toList ds gs before) (hb : Below W.heap.size W W') :
    s.post enc P f false true false false W args (.bool true) W' := by
  have hW' := hW
  obtain ⟨p, q, hA, hV, rfl, hfz, hnd⟩ := hW
  refine ⟨ds, gs, p ++ q, [], p, q, hW', ?_, ?_, ?_, hb.frame _, fun h => by cases h⟩
  · rw [hr, hs]
    exact trodAll_mk1 (shut_bool hu true)
  · rw [ha]; exact trodAll_below hl hb hp hA
  · rw [hg]; exact hb.trodVars hl hv hV
end
end Go.Proofs.Ytpbdgbejcdncgaa.Frame
end
