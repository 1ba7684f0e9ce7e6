/- THE CONTRACTS OF scope.Right and scope.Under, at lists. -/
import Derived.Test.YtdggofleokjmcaaGreatDoorSc
namespace Go.Proofs.YtdggofleokjmcaaGreatDoor.Sc
open Go.RowKit
theorem right_l (x : List UInt8) (w : World) (h : x.length ≤ 140737488351232) :
    Calls Tryz.prog 35 #[.string ⟨x.toArray⟩] w fun e w' => e = .returned (.bool (rightB x)) ∧ Drawn w w' :=
  right_any ⟨x.toArray⟩ w (by show x.length ≤ _; unfold maxLen; omega) (by show x.length < _; omega)
theorem under_l (a b : List UInt8) (w : World) (h : a.length ≤ 140737488351232) (h2 : b.length ≤ 140737488351232) :
    Calls Tryz.prog 39 #[.string ⟨a.toArray⟩, .string ⟨b.toArray⟩] w fun e w' => e = .returned (.bool (underB a b)) ∧ w = w' :=
  under_any a b w (by unfold maxLen; omega) (by unfold maxLen; omega)
end Go.Proofs.YtdggofleokjmcaaGreatDoor.Sc
