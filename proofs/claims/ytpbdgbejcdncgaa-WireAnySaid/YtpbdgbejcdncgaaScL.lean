/- THE CONTRACTS OF scope.Right and scope.Under, at lists. -/
import Derived.Test.YtpbdgbejcdncgaaSc
namespace Go.Proofs.Ytpbdgbejcdncgaa.Sc
open Go.RowKit
theorem right_l (x : List UInt8) (w : World) (h : x.length ≤ 140737488351232) :
    Calls Try.prog 18 #[.string ⟨x.toArray⟩] w fun e w' => e = .returned (.bool (rightB x)) ∧ Drawn w w' :=
  right_any ⟨x.toArray⟩ w (by show x.length ≤ _; unfold maxLen; omega) (by show x.length < _; omega)
end Go.Proofs.Ytpbdgbejcdncgaa.Sc
