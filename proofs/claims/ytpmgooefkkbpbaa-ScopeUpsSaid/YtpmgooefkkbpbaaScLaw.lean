/- THE LAWS OF package scope: fit; plain laws of what is below. -/
import Derived.Test.YtpmgooefkkbpbaaSc
import Derived.Test.YtpmgooefkkbpbaaFrame
namespace Go.Proofs.Ytpmgooefkkbpbaa.Sc
open Go.RowKit
theorem right_l (x : List UInt8) (w : World) (h : x.length ≤ 140737488351232) :
    Calls Try.prog 11 #[.string ⟨x.toArray⟩] w fun e w' => e = .returned (.bool (rightB x)) ∧ Drawn w w' :=
  right_any ⟨x.toArray⟩ w (by show x.length ≤ _; unfold maxLen; omega) (by show x.length < _; omega)
theorem under_l (a b : List UInt8) (w : World) (h : a.length ≤ 140737488351232) (h2 : b.length ≤ 140737488351232) :
    Calls Try.prog 12 #[.string ⟨a.toArray⟩, .string ⟨b.toArray⟩] w fun e w' => e = .returned (.bool (underB a b)) ∧ w = w' :=
  under_any a b w (by unfold maxLen; omega) (by unfold maxLen; omega)
set_option maxHeartbeats 400000 in
theorem fit_any (w : World) :
    Calls Try.prog 8 #[] w fun e w' => e = .returned (.bool true) ∧ Drawn w w' := by
  have u1 : underB [97, 47, 98] [97] = true := by decide
  have u2 : underB [97, 98] [97] = false := by decide
  have r1 : rightB [97, 47, 98] = true := by decide
  have r2 : rightB [47, 97] = false := by decide
  have n1 : nameB [97] = true := by decide
  go_enter Try.func8, Try.ntmps8
  go_wp2_with (first | (go_at_call 12; refine (under_any _ _ _ (by decide) (by decide)).mono ?_; rintro e w' ⟨rfl, rfl⟩) | (go_at_call 10; refine (name_any _ _ (by decide)).mono ?_; rintro e w' ⟨rfl, rfl⟩) | (go_at_call 11; refine (right_any _ _ (by decide) (by decide)).mono ?_; rintro e w' ⟨rfl, ⟨_, rfl⟩⟩))
  go_ret
  exact ⟨rfl, _, rfl⟩
end Go.Proofs.Ytpmgooefkkbpbaa.Sc
