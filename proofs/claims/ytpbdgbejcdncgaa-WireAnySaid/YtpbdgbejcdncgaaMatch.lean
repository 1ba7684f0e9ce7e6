/- THE WALK OF cond.Match. -/
import Derived.Test.YtpbdgbejcdncgaaAttr
namespace Go.Proofs.Ytpbdgbejcdncgaa.Val
open Go.RowKit Flt
attribute [local go_sem] run_store_flt
/-- does an event of these attributes do? -/
def matchB (c : C) (l : List A) : Bool := foundB l c.name && holdsB c (l[bs l c.name 0 l.length]!).val
end Go.Proofs.Ytpbdgbejcdncgaa.Val
