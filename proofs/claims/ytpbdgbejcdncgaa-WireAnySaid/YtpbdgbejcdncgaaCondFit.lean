/- THE WALK OF the laws' fit of package cond: it prints 'a < 3'. -/
import Derived.Test.YtpbdgbejcdncgaaCond
import Derived.Test.YtpbdgbejcdncgaaName
import Derived.RegionCalls
import Derived.Deep.RegionWith
import Derived.Deep.RegionHeld3
namespace Go.Proofs.Ytpbdgbejcdncgaa.Val
open Go.RowKit Flt
theorem wordB_len (op : Int) : (wordB op).length ≤ 3 := by
  unfold wordB
  split
  · simp
  · have : op.toNat ≤ 7 := by omega
    revert this
    generalize op.toNat = n
    intro h
    match n, h with
    | 0, _ => decide
    | 1, _ => decide
    | 2, _ => decide
    | 3, _ => decide
    | 4, _ => decide
    | 5, _ => decide
    | 6, _ => decide
    | 7, _ => decide
theorem holds_a3 (n : Int) : holdsB ⟨[97], 2, ⟨0, 3, 0, [], false⟩⟩ ⟨0, n, 0, [], false⟩ = decide (n < 3) := by
  rw [Bool.eq_iff_iff]
  simp only [holdsB, cmp1, cmpOk, voidB, cmp, sgn]
  by_cases h : n < 3 <;> by_cases h' : 3 < n <;> simp [h, h'] <;> omega
theorem fname (w : World) : Calls Try.prog 17 #[.string ⟨#[97]⟩] w fun e w' => e = .returned (.bool true) ∧ w = w' :=
  (Sc.name_l [97] w (by decide)).mono fun _ _ ⟨h1, h2⟩ => ⟨h1, h2⟩
theorem fright (w : World) : Calls Try.prog 41 #[val 0 3 0 [] false] w fun e w' => e = .returned (.bool true) ∧ Below w.heap.size w w' :=
  (vright_any 0 3 0 [] false w (by decide)).mono fun _ _ ⟨h1, h2⟩ => ⟨h1, h2⟩
theorem run_store_flt (P : Program) (w : World) (a : Addr) (m : Mode) (k : FloatKind) (b : Nat) : (store a (.float k b) m).run P w = stored P w a (.float k b) m := run_store P w a _ m rfl
attribute [local go_sem] run_store_flt
theorem size1 {w w1 : World} {o : Obj} (hb : Below (w.alloc o).heap.size (w.alloc o) w1) : w.heap.size < w1.heap.size := Nat.lt_of_lt_of_le (by show w.heap.size < (w.alloc o).heap.size; simp) hb.size
end Go.Proofs.Ytpbdgbejcdncgaa.Val
