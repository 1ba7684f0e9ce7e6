/-
  No cell of these rows narrows 'for every input' (looked for: loops, veiled, ifaces, maps, wideKeys, modest, calm, conditions, laid).
  DERIVED. THE GIVEN ROWS OF THIS SEAT. 5 by the template 'for every input the law returns true; each argument reads behind the call as it read before'; 0 by the template 'total and deterministic' (their statements: YtpmgooefkkbpbaaTotals.lean).
  GIVEN WITH THE SEED: the statements are not yours to turn. If you find one false, say at which input.
  Laid BY PROGRAM, IN A SANDBOX (cutbox-rows.mjs): the forced cells as the released guide's own fill.sh prints them over the translation 85a66d0dab846768… (all of the seat's roots in one cut). By AI agents, Wed Nov 11 2026. No macro, syntax, notation, axiom, sorry.
-/
import Derived.Test.YtpmgooefkkbpbaaChecked
import GoSem.Claim
import GoSem.ClaimJoined
import GoSem.ClaimMapViews
import Derived.JoinedTies
import Derived.KernelRfl
namespace Go.Proofs.Ytpmgooefkkbpbaa
/- THE CELL 'sum', in the pinned program and in every row, IS THE sha256 OF THE DUMP (.gsa) THAT YtpmgooefkkbpbaaProg.lean LOADS. Nothing in Lean hashes anything: it is a label: what it is worth is what the hold of that sum in a sandbox is worth. -/
noncomputable def Try.pinned : Pinned := { name := "ytpmgooefkkbpbaa", sum := "85a66d0dab84676803cb598cf9cddc6d13ee29ad6832719c430f7b119f5b6394", checked := Try.checked }
namespace Rows
def none {H : Type} : Left H := { results := [], args := [] }

/-- 'gazettelaw05.ScopeRights': WHATEVER THE INPUT: true; the input reads as it did. -/
def scopeRightsSpec : ChangeSpec := { name := "scopeRights", fn := fun _ => fun
  | [d] => { results := [.lit (.bool true)], args := [d] }
  | _ => none }
def scopeRightsRow : OpenClaim := { program := "ytpmgooefkkbpbaa", sum := "85a66d0dab84676803cb598cf9cddc6d13ee29ad6832719c430f7b119f5b6394", func := "gazette/gazettelaw05.ScopeRights", spec := "scopeRights", inPlace := ["internal/bytealg.IndexByteString", "internal/bytealg.IndexString"], named := ["internal/bytealg.MaxLen"], apart := false }
def ScopeRightsSaid : Prop := scopeRightsRow.holds Try.pinned (OpenSpec.ofChange scopeRightsSpec)

/-- ITS FALSE NEIGHBOUR: 'it returns false'. Refute it at one input. -/
def scopeRightsWrong : ChangeSpec := { name := "scopeRights", fn := fun _ => fun
  | [d] => { results := [.lit (.bool false)], args := [d] }
  | _ => none }
def ScopeRightsWrongFalsely : Prop := scopeRightsRow.holds Try.pinned (OpenSpec.ofChange scopeRightsWrong)

/-- 'gazettelaw05.ScopeUnders': WHATEVER THE INPUT: true; the input reads as it did. -/
def scopeUndersSpec : ChangeSpec := { name := "scopeUnders", fn := fun _ => fun
  | [d1, d2] => { results := [.lit (.bool true)], args := [d1, d2] }
  | _ => none }
def scopeUndersRow : OpenClaim := { program := "ytpmgooefkkbpbaa", sum := "85a66d0dab84676803cb598cf9cddc6d13ee29ad6832719c430f7b119f5b6394", func := "gazette/gazettelaw05.ScopeUnders", spec := "scopeUnders", inPlace := ["internal/bytealg.IndexByteString", "internal/bytealg.IndexString"], named := ["internal/bytealg.MaxLen"], apart := false }
def ScopeUndersSaid : Prop := scopeUndersRow.holds Try.pinned (OpenSpec.ofChange scopeUndersSpec)

/-- ITS FALSE NEIGHBOUR: 'it returns false'. Refute it at one input. -/
def scopeUndersWrong : ChangeSpec := { name := "scopeUnders", fn := fun _ => fun
  | [d1, d2] => { results := [.lit (.bool false)], args := [d1, d2] }
  | _ => none }
def ScopeUndersWrongFalsely : Prop := scopeUndersRow.holds Try.pinned (OpenSpec.ofChange scopeUndersWrong)

/-- 'gazettelaw05.ScopeChains': WHATEVER THE INPUT: true; the input reads as it did. -/
def scopeChainsSpec : ChangeSpec := { name := "scopeChains", fn := fun _ => fun
  | [d1, d2, d3] => { results := [.lit (.bool true)], args := [d1, d2, d3] }
  | _ => none }
def scopeChainsRow : OpenClaim := { program := "ytpmgooefkkbpbaa", sum := "85a66d0dab84676803cb598cf9cddc6d13ee29ad6832719c430f7b119f5b6394", func := "gazette/gazettelaw05.ScopeChains", spec := "scopeChains", inPlace := ["internal/bytealg.IndexByteString", "internal/bytealg.IndexString"], named := ["internal/bytealg.MaxLen"], apart := false }
def ScopeChainsSaid : Prop := scopeChainsRow.holds Try.pinned (OpenSpec.ofChange scopeChainsSpec)

/-- ITS FALSE NEIGHBOUR: 'it returns false'. Refute it at one input. -/
def scopeChainsWrong : ChangeSpec := { name := "scopeChains", fn := fun _ => fun
  | [d1, d2, d3] => { results := [.lit (.bool false)], args := [d1, d2, d3] }
  | _ => none }
def ScopeChainsWrongFalsely : Prop := scopeChainsRow.holds Try.pinned (OpenSpec.ofChange scopeChainsWrong)

/-- 'gazettelaw05.ScopeUps': WHATEVER THE INPUT: true; the input reads as it did. -/
def scopeUpsSpec : ChangeSpec := { name := "scopeUps", fn := fun _ => fun
  | [d1, d2] => { results := [.lit (.bool true)], args := [d1, d2] }
  | _ => none }
def scopeUpsRow : OpenClaim := { program := "ytpmgooefkkbpbaa", sum := "85a66d0dab84676803cb598cf9cddc6d13ee29ad6832719c430f7b119f5b6394", func := "gazette/gazettelaw05.ScopeUps", spec := "scopeUps", inPlace := ["internal/bytealg.IndexByteString", "internal/bytealg.IndexString"], unfollowed := true, recurses := true, named := ["internal/bytealg.MaxLen"], apart := false }
def ScopeUpsSaid : Prop := scopeUpsRow.holds Try.pinned (OpenSpec.ofChange scopeUpsSpec)

/-- ITS FALSE NEIGHBOUR: 'it returns false'. Refute it at one input. -/
def scopeUpsWrong : ChangeSpec := { name := "scopeUps", fn := fun _ => fun
  | [d1, d2] => { results := [.lit (.bool false)], args := [d1, d2] }
  | _ => none }
def ScopeUpsWrongFalsely : Prop := scopeUpsRow.holds Try.pinned (OpenSpec.ofChange scopeUpsWrong)

/-- 'gazettelaw05.ScopeAll': WHATEVER THE INPUT: true; the input reads as it did. -/
def scopeAllSpec : ChangeSpec := { name := "scopeAll", fn := fun _ => fun
  | [d1, d2] => { results := [.lit (.bool true)], args := [d1, d2] }
  | _ => none }
def scopeAllRow : OpenClaim := { program := "ytpmgooefkkbpbaa", sum := "85a66d0dab84676803cb598cf9cddc6d13ee29ad6832719c430f7b119f5b6394", func := "gazette/gazettelaw05.ScopeAll", spec := "scopeAll", inPlace := ["internal/bytealg.IndexByteString", "internal/bytealg.IndexString"], unfollowed := true, recurses := true, named := ["internal/bytealg.MaxLen"], apart := false }
def ScopeAllSaid : Prop := scopeAllRow.holds Try.pinned (OpenSpec.ofChange scopeAllSpec)

/-- ITS FALSE NEIGHBOUR: 'it returns false'. Refute it at one input. -/
def scopeAllWrong : ChangeSpec := { name := "scopeAll", fn := fun _ => fun
  | [d1, d2] => { results := [.lit (.bool false)], args := [d1, d2] }
  | _ => none }
def ScopeAllWrongFalsely : Prop := scopeAllRow.holds Try.pinned (OpenSpec.ofChange scopeAllWrong)

/- THE SECOND FORM. 'bulk': how many values and letters a reading holds, each counted each time it is reached (what is shared counts as often as it is met; a slice's spare places count too). A statement '..UptoSaid' is the law's where the arguments, and the package variables that the reading takes, are together of bulk at most 1048576: NARROWER than '..Said'. Prove '..Said' where nothing that the law and all that it calls make is longer than what came in: it says more and counts as full. Else prove '..UptoSaid'. A law counts once. -/
mutual
def uptoBulk {H : Type} : DataW H → Nat
  | .lit (.string bytes) => bytes.length + 1
  | .lit _ => 1
  | .nil => 1
  | .ptr d => uptoBulk d + 1
  | .slice elems spare => uptoBulkAll elems + uptoBulkAll spare + 1
  | .agg parts => uptoBulkAll parts + 1
  | .iface _ d => uptoBulk d + 1
  | .map entries => uptoBulkEntries entries + 1
  | .held _ => 1
def uptoBulkAll {H : Type} : List (DataW H) → Nat
  | [] => 0
  | d :: r => uptoBulk d + uptoBulkAll r
def uptoBulkEntries {H : Type} : List (Lit × DataW H) → Nat
  | [] => 0
  | x :: r => uptoBulkEntry x + uptoBulkEntries r
def uptoBulkEntry {H : Type} : Lit × DataW H → Nat
  | (.string bytes, d) => bytes.length + uptoBulk d + 1
  | (_, d) => uptoBulk d + 1
 end
def uptoSmall : (H : Type) → List (DataW H) → Bool := fun _ ds => decide (uptoBulkAll ds ≤ 1048576)
def OpenSpec.upto (s : _root_.Go.ChangeSpec) : _root_.Go.OpenSpec := { _root_.Go.OpenSpec.ofChange s with cond := some uptoSmall }

/-- 'gazettelaw05.ScopeRights', WHERE WHAT IT READS IS OF BULK AT MOST 1048576: true; the input reads as it did. -/
def scopeRightsUptoRow : OpenClaim := { program := "ytpmgooefkkbpbaa", sum := "85a66d0dab84676803cb598cf9cddc6d13ee29ad6832719c430f7b119f5b6394", func := "gazette/gazettelaw05.ScopeRights", spec := "scopeRights", inPlace := ["internal/bytealg.IndexByteString", "internal/bytealg.IndexString"], named := ["internal/bytealg.MaxLen"], apart := false, narrowed := true }
def ScopeRightsUptoSaid : Prop := scopeRightsUptoRow.holds Try.pinned (OpenSpec.upto scopeRightsSpec)

/-- 'gazettelaw05.ScopeUnders', WHERE WHAT IT READS IS OF BULK AT MOST 1048576: true; the input reads as it did. -/
def scopeUndersUptoRow : OpenClaim := { program := "ytpmgooefkkbpbaa", sum := "85a66d0dab84676803cb598cf9cddc6d13ee29ad6832719c430f7b119f5b6394", func := "gazette/gazettelaw05.ScopeUnders", spec := "scopeUnders", inPlace := ["internal/bytealg.IndexByteString", "internal/bytealg.IndexString"], named := ["internal/bytealg.MaxLen"], apart := false, narrowed := true }
def ScopeUndersUptoSaid : Prop := scopeUndersUptoRow.holds Try.pinned (OpenSpec.upto scopeUndersSpec)

/-- 'gazettelaw05.ScopeChains', WHERE WHAT IT READS IS OF BULK AT MOST 1048576: true; the input reads as it did. -/
def scopeChainsUptoRow : OpenClaim := { program := "ytpmgooefkkbpbaa", sum := "85a66d0dab84676803cb598cf9cddc6d13ee29ad6832719c430f7b119f5b6394", func := "gazette/gazettelaw05.ScopeChains", spec := "scopeChains", inPlace := ["internal/bytealg.IndexByteString", "internal/bytealg.IndexString"], named := ["internal/bytealg.MaxLen"], apart := false, narrowed := true }
def ScopeChainsUptoSaid : Prop := scopeChainsUptoRow.holds Try.pinned (OpenSpec.upto scopeChainsSpec)

/-- 'gazettelaw05.ScopeUps', WHERE WHAT IT READS IS OF BULK AT MOST 1048576: true; the input reads as it did. -/
def scopeUpsUptoRow : OpenClaim := { program := "ytpmgooefkkbpbaa", sum := "85a66d0dab84676803cb598cf9cddc6d13ee29ad6832719c430f7b119f5b6394", func := "gazette/gazettelaw05.ScopeUps", spec := "scopeUps", inPlace := ["internal/bytealg.IndexByteString", "internal/bytealg.IndexString"], unfollowed := true, recurses := true, named := ["internal/bytealg.MaxLen"], apart := false, narrowed := true }
def ScopeUpsUptoSaid : Prop := scopeUpsUptoRow.holds Try.pinned (OpenSpec.upto scopeUpsSpec)

/-- 'gazettelaw05.ScopeAll', WHERE WHAT IT READS IS OF BULK AT MOST 1048576: true; the input reads as it did. -/
def scopeAllUptoRow : OpenClaim := { program := "ytpmgooefkkbpbaa", sum := "85a66d0dab84676803cb598cf9cddc6d13ee29ad6832719c430f7b119f5b6394", func := "gazette/gazettelaw05.ScopeAll", spec := "scopeAll", inPlace := ["internal/bytealg.IndexByteString", "internal/bytealg.IndexString"], unfollowed := true, recurses := true, named := ["internal/bytealg.MaxLen"], apart := false, narrowed := true }
def ScopeAllUptoSaid : Prop := scopeAllUptoRow.holds Try.pinned (OpenSpec.upto scopeAllSpec)

end Rows
end Go.Proofs.Ytpmgooefkkbpbaa
