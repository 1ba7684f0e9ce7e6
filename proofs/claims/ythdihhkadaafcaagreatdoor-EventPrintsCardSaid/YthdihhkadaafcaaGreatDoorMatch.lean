/- THE WALK OF cond.Match. -/
import Derived.Test.YthdihhkadaafcaaGreatDoorAttr
namespace Go.Proofs.YthdihhkadaafcaaGreatDoor.Val
open Go.RowKit Flt
attribute [local go_sem] run_store_flt
/-- does an event of these attributes do? -/
def matchB (c : C) (l : List A) : Bool := foundB l c.name && holdsB c (l[bs l c.name 0 l.length]!).val
set_option maxHeartbeats 1000000 in
theorem match_any (c : C) (sc : List UInt8) (a0 : Option Addr) (cap : Nat) (l : List A) (w : World) (hl : Attrs w a0 l) (hlm : l.length ≤ 1000000) :
    Calls Tryz.prog 72 #[cc c, ev sc a0 l.length cap] w fun e w' => e = .returned (.bool (matchB c l)) ∧ Below w.heap.size w w' := by
  have hg (w : World) (h : Attrs w a0 l) := get_any sc a0 cap l c.name w h hlm
  have hm : matchB c l = (foundB l c.name && holdsB c (l[bs l c.name 0 l.length]!).val) := rfl
  obtain ⟨nm, op, k, n, x, t, y⟩ := c
  generalize foundB l nm = F at *
  generalize (l[bs l nm 0 l.length]!).val = v at *
  obtain ⟨k2, n2, x2, t2, y2⟩ := v
  have hh (w : World) := holds_any nm op k n x t y k2 n2 x2 t2 y2 w
  have HL := Lib.hid hl; have HG := Lib.hid hg; have HM := Lib.hid hm; have HH := Lib.hid hh; clear hl hg hm hh
  cases F
  all_goals
    go_enter Tryz.func72, Tryz.ntmps72
    go_wp2_with (first | (go_at_call 104; refine (HG.out _ (HL.out.below (by repeat (first | assumption | (with_reducible exact Below.refl _ _) | exact balloc _ _ | exact balloc2 _ _ _ | refine btrans ?_ (by assumption) | refine btrans ?_ (balloc _ _))))).mono ?_; rintro e w2 ⟨rfl, hb1⟩; obtain ⟨hc1, hf1⟩ := bcell hb1; have hsz := size2 hb1; have hsz0 : w.heap.size < w2.heap.size := by omega) | (go_at_call 45; refine (HH.out _).mono ?_; rintro e w3 ⟨rfl, hb3⟩) | fail)
    go_ret
    exact ⟨ret_bool (by rw [HM.out]; rfl), by repeat (first | assumption | (with_reducible exact Below.refl _ _) | exact balloc _ _ | exact balloc2 _ _ _ | refine btrans ?_ (by assumption) | refine btrans ?_ (balloc _ _))⟩
end Go.Proofs.YthdihhkadaafcaaGreatDoor.Val
