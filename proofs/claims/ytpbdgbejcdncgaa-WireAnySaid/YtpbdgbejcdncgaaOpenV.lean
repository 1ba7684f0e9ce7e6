/- WHAT THE OPENINGS OF SLICES SHARE. -/
import Derived.Test.YtpbdgbejcdncgaaOpenG
import Derived.Test.YtpbdgbejcdncgaaValFn
import Derived.Deep.Slices
namespace Go.Proofs.Ytpbdgbejcdncgaa.Open
open Go.ChangeShapes Go.WideShapes Go.ChangeAt Go.RowKit Go.Deep
def VOk (v : Val.V) : Prop := ValOk v.kind v.int v.num v.text
instance : Inhabited Val.V := ⟨⟨0, 0, 0, [], false⟩⟩
section
variable {H : Type}
theorem weightsAll_mem {P : Program} {e : TypeId} : ∀ {l : List (DataW H)} {d : DataW H}, d ∈ l → ∀ n ∈ d.weights P e, n ∈ DataW.weightsAll P e l
  | d0 :: l, d, hd, n, hn => by
    rw [DataW.weightsAll, List.mem_append]
    rcases List.mem_cons.1 hd with rfl | hd
    · exact Or.inl hn
    · exact Or.inr (weightsAll_mem hd n hn)
end
end Go.Proofs.Ytpbdgbejcdncgaa.Open
