/-
  No cell of these rows narrows 'for every input' (looked for: loops, veiled, ifaces, maps, wideKeys, modest, calm, conditions, laid).
  DERIVED. THE GIVEN ROWS OF THIS SEAT. 6 by the template 'for every input the law returns true; each argument reads behind the call as it read before'; 0 by the template 'total and deterministic' (their statements: YtglnjgpdaaibkaaTotals.lean).
  GIVEN WITH THE SEED: the statements are not yours to turn. If you find one false, say at which input.
  Laid BY PROGRAM, IN A SANDBOX (cutbox-rows.mjs): the forced cells as the released guide's own fill.sh prints them over the translation 1b5b072d08f7a022… (all of the seat's roots in one cut). By AI agents, Wed Nov 11 2026. No macro, syntax, notation, axiom, sorry.
-/
import Derived.Test.YtglnjgpdaaibkaaChecked
import GoSem.Claim
import GoSem.ClaimJoined
import GoSem.ClaimMapViews
import Derived.JoinedTies
import Derived.KernelRfl
namespace Go.Proofs.Ytglnjgpdaaibkaa
/- THE CELL 'sum', in the pinned program and in every row, IS THE sha256 OF THE DUMP (.gsa) THAT YtglnjgpdaaibkaaProg.lean LOADS. Nothing in Lean hashes anything: it is a label: what it is worth is what the hold of that sum in a sandbox is worth. -/
noncomputable def Try.pinned : Pinned := { name := "ytglnjgpdaaibkaa", sum := "1b5b072d08f7a022f74b2bc223f7a2951eab99807375d3b0242bd94fc85d5b06", checked := Try.checked }
namespace Rows
def none {H : Type} : Left H := { results := [], args := [] }

/-- 'gazettelaw01.OrderKeys': WHATEVER THE INPUT: true; the input reads as it did. -/
def orderKeysSpec : ChangeSpec := { name := "orderKeys", fn := fun _ => fun
  | [d1, d2] => { results := [.lit (.bool true)], args := [d1, d2] }
  | _ => none }
def orderKeysRow : OpenClaim := { program := "ytglnjgpdaaibkaa", sum := "1b5b072d08f7a022f74b2bc223f7a2951eab99807375d3b0242bd94fc85d5b06", func := "gazette/gazettelaw01.OrderKeys", spec := "orderKeys", inPlace := ["math.Float64frombits", "math.Float64bits"], apart := false }
def OrderKeysSaid : Prop := orderKeysRow.holds Try.pinned (OpenSpec.ofChange orderKeysSpec)

/-- ITS FALSE NEIGHBOUR: 'it returns false'. Refute it at one input. -/
def orderKeysWrong : ChangeSpec := { name := "orderKeys", fn := fun _ => fun
  | [d1, d2] => { results := [.lit (.bool false)], args := [d1, d2] }
  | _ => none }
def OrderKeysWrongFalsely : Prop := orderKeysRow.holds Try.pinned (OpenSpec.ofChange orderKeysWrong)

/-- 'gazettelaw01.OrderCanons': WHATEVER THE INPUT: true; the input reads as it did. -/
def orderCanonsSpec : ChangeSpec := { name := "orderCanons", fn := fun _ => fun
  | [d] => { results := [.lit (.bool true)], args := [d] }
  | _ => none }
def orderCanonsRow : OpenClaim := { program := "ytglnjgpdaaibkaa", sum := "1b5b072d08f7a022f74b2bc223f7a2951eab99807375d3b0242bd94fc85d5b06", func := "gazette/gazettelaw01.OrderCanons", spec := "orderCanons", inPlace := ["math.Float64frombits", "math.Float64bits"], apart := false }
def OrderCanonsSaid : Prop := orderCanonsRow.holds Try.pinned (OpenSpec.ofChange orderCanonsSpec)

/-- ITS FALSE NEIGHBOUR: 'it returns false'. Refute it at one input. -/
def orderCanonsWrong : ChangeSpec := { name := "orderCanons", fn := fun _ => fun
  | [d] => { results := [.lit (.bool false)], args := [d] }
  | _ => none }
def OrderCanonsWrongFalsely : Prop := orderCanonsRow.holds Try.pinned (OpenSpec.ofChange orderCanonsWrong)

/-- 'gazettelaw01.OrderChains': WHATEVER THE INPUT: true; the input reads as it did. -/
def orderChainsSpec : ChangeSpec := { name := "orderChains", fn := fun _ => fun
  | [d1, d2, d3] => { results := [.lit (.bool true)], args := [d1, d2, d3] }
  | _ => none }
def orderChainsRow : OpenClaim := { program := "ytglnjgpdaaibkaa", sum := "1b5b072d08f7a022f74b2bc223f7a2951eab99807375d3b0242bd94fc85d5b06", func := "gazette/gazettelaw01.OrderChains", spec := "orderChains", inPlace := ["math.Float64frombits", "math.Float64bits"], apart := false }
def OrderChainsSaid : Prop := orderChainsRow.holds Try.pinned (OpenSpec.ofChange orderChainsSpec)

/-- ITS FALSE NEIGHBOUR: 'it returns false'. Refute it at one input. -/
def orderChainsWrong : ChangeSpec := { name := "orderChains", fn := fun _ => fun
  | [d1, d2, d3] => { results := [.lit (.bool false)], args := [d1, d2, d3] }
  | _ => none }
def OrderChainsWrongFalsely : Prop := orderChainsRow.holds Try.pinned (OpenSpec.ofChange orderChainsWrong)

/-- 'gazettelaw01.OrderSigns': WHATEVER THE INPUT: true; the input reads as it did. -/
def orderSignsSpec : ChangeSpec := { name := "orderSigns", fn := fun _ => fun
  | [d] => { results := [.lit (.bool true)], args := [d] }
  | _ => none }
def orderSignsRow : OpenClaim := { program := "ytglnjgpdaaibkaa", sum := "1b5b072d08f7a022f74b2bc223f7a2951eab99807375d3b0242bd94fc85d5b06", func := "gazette/gazettelaw01.OrderSigns", spec := "orderSigns", inPlace := ["math.Float64frombits", "math.Float64bits"], apart := false }
def OrderSignsSaid : Prop := orderSignsRow.holds Try.pinned (OpenSpec.ofChange orderSignsSpec)

/-- ITS FALSE NEIGHBOUR: 'it returns false'. Refute it at one input. -/
def orderSignsWrong : ChangeSpec := { name := "orderSigns", fn := fun _ => fun
  | [d] => { results := [.lit (.bool false)], args := [d] }
  | _ => none }
def OrderSignsWrongFalsely : Prop := orderSignsRow.holds Try.pinned (OpenSpec.ofChange orderSignsWrong)

/-- 'gazettelaw01.OrderBacks': WHATEVER THE INPUT: true; the input reads as it did. -/
def orderBacksSpec : ChangeSpec := { name := "orderBacks", fn := fun _ => fun
  | [d1, d2] => { results := [.lit (.bool true)], args := [d1, d2] }
  | _ => none }
def orderBacksRow : OpenClaim := { program := "ytglnjgpdaaibkaa", sum := "1b5b072d08f7a022f74b2bc223f7a2951eab99807375d3b0242bd94fc85d5b06", func := "gazette/gazettelaw01.OrderBacks", spec := "orderBacks", inPlace := ["math.Float64frombits", "math.Float64bits"], apart := false }
def OrderBacksSaid : Prop := orderBacksRow.holds Try.pinned (OpenSpec.ofChange orderBacksSpec)

/-- ITS FALSE NEIGHBOUR: 'it returns false'. Refute it at one input. -/
def orderBacksWrong : ChangeSpec := { name := "orderBacks", fn := fun _ => fun
  | [d1, d2] => { results := [.lit (.bool false)], args := [d1, d2] }
  | _ => none }
def OrderBacksWrongFalsely : Prop := orderBacksRow.holds Try.pinned (OpenSpec.ofChange orderBacksWrong)

/-- 'gazettelaw01.OrderEnds': WHATEVER THE INPUT: true; the input reads as it did. -/
def orderEndsSpec : ChangeSpec := { name := "orderEnds", fn := fun _ => fun
  | [d] => { results := [.lit (.bool true)], args := [d] }
  | _ => none }
def orderEndsRow : OpenClaim := { program := "ytglnjgpdaaibkaa", sum := "1b5b072d08f7a022f74b2bc223f7a2951eab99807375d3b0242bd94fc85d5b06", func := "gazette/gazettelaw01.OrderEnds", spec := "orderEnds", inPlace := ["math.Float64frombits", "math.Float64bits"], apart := false }
def OrderEndsSaid : Prop := orderEndsRow.holds Try.pinned (OpenSpec.ofChange orderEndsSpec)

/-- ITS FALSE NEIGHBOUR: 'it returns false'. Refute it at one input. -/
def orderEndsWrong : ChangeSpec := { name := "orderEnds", fn := fun _ => fun
  | [d] => { results := [.lit (.bool false)], args := [d] }
  | _ => none }
def OrderEndsWrongFalsely : Prop := orderEndsRow.holds Try.pinned (OpenSpec.ofChange orderEndsWrong)

/- THE SECOND FORM. 'bulk': how many values and letters a reading holds, each counted each time it is reached (what is shared counts as often as it is met; a slice's spare places count too). A statement '..UptoSaid' is the law's where the arguments, and the package variables that the reading takes, are together of bulk at most 1048576: NARROWER than '..Said'. Prove '..Said' where nothing that the law and all that it calls make is longer than what came in: it says more and counts as full. Else prove '..UptoSaid'. A law counts once. -/
mutual
def uptoBulk {H : Type} : DataW H → Nat
  | .lit (.string bytes) => bytes.length + 1
  | .lit _ => 1
  | .nil => 1
  | .ptr d => uptoBulk d + 1
  | .slice elems spare => uptoBulkAll elems + uptoBulkAll spare + 1
  | .agg parts => uptoBulkAll parts + 1
  | .iface _ d => uptoBulk d + 1
  | .map entries => uptoBulkEntries entries + 1
  | .held _ => 1
def uptoBulkAll {H : Type} : List (DataW H) → Nat
  | [] => 0
  | d :: r => uptoBulk d + uptoBulkAll r
def uptoBulkEntries {H : Type} : List (Lit × DataW H) → Nat
  | [] => 0
  | x :: r => uptoBulkEntry x + uptoBulkEntries r
def uptoBulkEntry {H : Type} : Lit × DataW H → Nat
  | (.string bytes, d) => bytes.length + uptoBulk d + 1
  | (_, d) => uptoBulk d + 1
 end
def uptoSmall : (H : Type) → List (DataW H) → Bool := fun _ ds => decide (uptoBulkAll ds ≤ 1048576)
def OpenSpec.upto (s : _root_.Go.ChangeSpec) : _root_.Go.OpenSpec := { _root_.Go.OpenSpec.ofChange s with cond := some uptoSmall }

/-- 'gazettelaw01.OrderKeys', WHERE WHAT IT READS IS OF BULK AT MOST 1048576: true; the input reads as it did. -/
def orderKeysUptoRow : OpenClaim := { program := "ytglnjgpdaaibkaa", sum := "1b5b072d08f7a022f74b2bc223f7a2951eab99807375d3b0242bd94fc85d5b06", func := "gazette/gazettelaw01.OrderKeys", spec := "orderKeys", inPlace := ["math.Float64frombits", "math.Float64bits"], apart := false, narrowed := true }
def OrderKeysUptoSaid : Prop := orderKeysUptoRow.holds Try.pinned (OpenSpec.upto orderKeysSpec)

/-- 'gazettelaw01.OrderCanons', WHERE WHAT IT READS IS OF BULK AT MOST 1048576: true; the input reads as it did. -/
def orderCanonsUptoRow : OpenClaim := { program := "ytglnjgpdaaibkaa", sum := "1b5b072d08f7a022f74b2bc223f7a2951eab99807375d3b0242bd94fc85d5b06", func := "gazette/gazettelaw01.OrderCanons", spec := "orderCanons", inPlace := ["math.Float64frombits", "math.Float64bits"], apart := false, narrowed := true }
def OrderCanonsUptoSaid : Prop := orderCanonsUptoRow.holds Try.pinned (OpenSpec.upto orderCanonsSpec)

/-- 'gazettelaw01.OrderChains', WHERE WHAT IT READS IS OF BULK AT MOST 1048576: true; the input reads as it did. -/
def orderChainsUptoRow : OpenClaim := { program := "ytglnjgpdaaibkaa", sum := "1b5b072d08f7a022f74b2bc223f7a2951eab99807375d3b0242bd94fc85d5b06", func := "gazette/gazettelaw01.OrderChains", spec := "orderChains", inPlace := ["math.Float64frombits", "math.Float64bits"], apart := false, narrowed := true }
def OrderChainsUptoSaid : Prop := orderChainsUptoRow.holds Try.pinned (OpenSpec.upto orderChainsSpec)

/-- 'gazettelaw01.OrderSigns', WHERE WHAT IT READS IS OF BULK AT MOST 1048576: true; the input reads as it did. -/
def orderSignsUptoRow : OpenClaim := { program := "ytglnjgpdaaibkaa", sum := "1b5b072d08f7a022f74b2bc223f7a2951eab99807375d3b0242bd94fc85d5b06", func := "gazette/gazettelaw01.OrderSigns", spec := "orderSigns", inPlace := ["math.Float64frombits", "math.Float64bits"], apart := false, narrowed := true }
def OrderSignsUptoSaid : Prop := orderSignsUptoRow.holds Try.pinned (OpenSpec.upto orderSignsSpec)

/-- 'gazettelaw01.OrderBacks', WHERE WHAT IT READS IS OF BULK AT MOST 1048576: true; the input reads as it did. -/
def orderBacksUptoRow : OpenClaim := { program := "ytglnjgpdaaibkaa", sum := "1b5b072d08f7a022f74b2bc223f7a2951eab99807375d3b0242bd94fc85d5b06", func := "gazette/gazettelaw01.OrderBacks", spec := "orderBacks", inPlace := ["math.Float64frombits", "math.Float64bits"], apart := false, narrowed := true }
def OrderBacksUptoSaid : Prop := orderBacksUptoRow.holds Try.pinned (OpenSpec.upto orderBacksSpec)

/-- 'gazettelaw01.OrderEnds', WHERE WHAT IT READS IS OF BULK AT MOST 1048576: true; the input reads as it did. -/
def orderEndsUptoRow : OpenClaim := { program := "ytglnjgpdaaibkaa", sum := "1b5b072d08f7a022f74b2bc223f7a2951eab99807375d3b0242bd94fc85d5b06", func := "gazette/gazettelaw01.OrderEnds", spec := "orderEnds", inPlace := ["math.Float64frombits", "math.Float64bits"], apart := false, narrowed := true }
def OrderEndsUptoSaid : Prop := orderEndsUptoRow.holds Try.pinned (OpenSpec.upto orderEndsSpec)

end Rows
end Go.Proofs.Ytglnjgpdaaibkaa
