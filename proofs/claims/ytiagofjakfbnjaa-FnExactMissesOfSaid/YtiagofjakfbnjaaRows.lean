/-
  No cell of these rows narrows 'for every input' (looked for: loops, veiled, ifaces, maps, wideKeys, modest, calm, conditions, laid).
  DERIVED. THE GIVEN ROWS OF THIS SEAT. 6 by the template 'for every input the law returns true; each argument reads behind the call as it read before'; 0 by the template 'total and deterministic' (their statements: YtiagofjakfbnjaaTotals.lean).
  GIVEN WITH THE SEED: the statements are not yours to turn. If you find one false, say at which input.
  Laid BY PROGRAM, IN A SANDBOX (cutbox-rows.mjs): the forced cells as the released guide's own fill.sh prints them over the translation 30514c7227f69ba9… (all of the seat's roots in one cut). By AI agents, Wed Nov 11 2026. No macro, syntax, notation, axiom, sorry.
-/
import Derived.Test.YtiagofjakfbnjaaChecked
import GoSem.Claim
import GoSem.ClaimJoined
import GoSem.ClaimMapViews
import Derived.JoinedTies
import Derived.KernelRfl
namespace Go.Proofs.Ytiagofjakfbnjaa
/- THE CELL 'sum', in the pinned program and in every row, IS THE sha256 OF THE DUMP (.gsa) THAT YtiagofjakfbnjaaProg.lean LOADS. Nothing in Lean hashes anything: it is a label: what it is worth is what the hold of that sum in a sandbox is worth. -/
noncomputable def Try.pinned : Pinned := { name := "ytiagofjakfbnjaa", sum := "30514c7227f69ba9090aa19c24841db5357845c09926a09f5f1d4e4a75cc5ea7", checked := Try.checked }
namespace Rows
def none {H : Type} : Left H := { results := [], args := [] }

/-- 'laws.FnExactRidgeCost': WHATEVER THE INPUT: true; the input reads as it did. -/
def fnExactRidgeCostSpec : ChangeSpec := { name := "fnExactRidgeCost", fn := fun _ => fun
  | [d1, d2, d3] => { results := [.lit (.bool true)], args := [d1, d2, d3] }
  | _ => none }
def fnExactRidgeCostRow : OpenClaim := { program := "ytiagofjakfbnjaa", sum := "30514c7227f69ba9090aa19c24841db5357845c09926a09f5f1d4e4a75cc5ea7", func := "loop.example/g01237/laws.FnExactRidgeCost", spec := "fnExactRidgeCost", unfollowed := true, recurses := true, apart := false }
def FnExactRidgeCostSaid : Prop := fnExactRidgeCostRow.holds Try.pinned (OpenSpec.ofChange fnExactRidgeCostSpec)

/-- ITS FALSE NEIGHBOUR: 'it returns false'. Refute it at one input. -/
def fnExactRidgeCostWrong : ChangeSpec := { name := "fnExactRidgeCost", fn := fun _ => fun
  | [d1, d2, d3] => { results := [.lit (.bool false)], args := [d1, d2, d3] }
  | _ => none }
def FnExactRidgeCostWrongFalsely : Prop := fnExactRidgeCostRow.holds Try.pinned (OpenSpec.ofChange fnExactRidgeCostWrong)

/-- 'laws.FnExactMissesOf': WHATEVER THE INPUT: true; the input reads as it did. -/
def fnExactMissesOfSpec : ChangeSpec := { name := "fnExactMissesOf", fn := fun _ => fun
  | [d1, d2] => { results := [.lit (.bool true)], args := [d1, d2] }
  | _ => none }
def fnExactMissesOfRow : OpenClaim := { program := "ytiagofjakfbnjaa", sum := "30514c7227f69ba9090aa19c24841db5357845c09926a09f5f1d4e4a75cc5ea7", func := "loop.example/g01237/laws.FnExactMissesOf", spec := "fnExactMissesOf", unfollowed := true, recurses := true, apart := false }
def FnExactMissesOfSaid : Prop := fnExactMissesOfRow.holds Try.pinned (OpenSpec.ofChange fnExactMissesOfSpec)

/-- ITS FALSE NEIGHBOUR: 'it returns false'. Refute it at one input. -/
def fnExactMissesOfWrong : ChangeSpec := { name := "fnExactMissesOf", fn := fun _ => fun
  | [d1, d2] => { results := [.lit (.bool false)], args := [d1, d2] }
  | _ => none }
def FnExactMissesOfWrongFalsely : Prop := fnExactMissesOfRow.holds Try.pinned (OpenSpec.ofChange fnExactMissesOfWrong)

/-- 'laws.FnExactWorstMiss': WHATEVER THE INPUT: true; the input reads as it did. -/
def fnExactWorstMissSpec : ChangeSpec := { name := "fnExactWorstMiss", fn := fun _ => fun
  | [d1, d2] => { results := [.lit (.bool true)], args := [d1, d2] }
  | _ => none }
def fnExactWorstMissRow : OpenClaim := { program := "ytiagofjakfbnjaa", sum := "30514c7227f69ba9090aa19c24841db5357845c09926a09f5f1d4e4a75cc5ea7", func := "loop.example/g01237/laws.FnExactWorstMiss", spec := "fnExactWorstMiss", inPlace := ["math.Float64bits", "math.Float64frombits"], unfollowed := true, recurses := true, apart := false }
def FnExactWorstMissSaid : Prop := fnExactWorstMissRow.holds Try.pinned (OpenSpec.ofChange fnExactWorstMissSpec)

/-- ITS FALSE NEIGHBOUR: 'it returns false'. Refute it at one input. -/
def fnExactWorstMissWrong : ChangeSpec := { name := "fnExactWorstMiss", fn := fun _ => fun
  | [d1, d2] => { results := [.lit (.bool false)], args := [d1, d2] }
  | _ => none }
def FnExactWorstMissWrongFalsely : Prop := fnExactWorstMissRow.holds Try.pinned (OpenSpec.ofChange fnExactWorstMissWrong)

/-- 'laws.FnExactSourcesIn': WHATEVER THE INPUT: true; the input reads as it did. -/
def fnExactSourcesInSpec : ChangeSpec := { name := "fnExactSourcesIn", fn := fun _ => fun
  | [d] => { results := [.lit (.bool true)], args := [d] }
  | _ => none }
def fnExactSourcesInRow : OpenClaim := { program := "ytiagofjakfbnjaa", sum := "30514c7227f69ba9090aa19c24841db5357845c09926a09f5f1d4e4a75cc5ea7", func := "loop.example/g01237/laws.FnExactSourcesIn", spec := "fnExactSourcesIn", unfollowed := true, recurses := true, apart := false }
def FnExactSourcesInSaid : Prop := fnExactSourcesInRow.holds Try.pinned (OpenSpec.ofChange fnExactSourcesInSpec)

/-- ITS FALSE NEIGHBOUR: 'it returns false'. Refute it at one input. -/
def fnExactSourcesInWrong : ChangeSpec := { name := "fnExactSourcesIn", fn := fun _ => fun
  | [d] => { results := [.lit (.bool false)], args := [d] }
  | _ => none }
def FnExactSourcesInWrongFalsely : Prop := fnExactSourcesInRow.holds Try.pinned (OpenSpec.ofChange fnExactSourcesInWrong)

/-- 'laws.FnExactBlockNormal': WHATEVER THE INPUT: true; the input reads as it did. -/
def fnExactBlockNormalSpec : ChangeSpec := { name := "fnExactBlockNormal", fn := fun _ => fun
  | [d1, d2] => { results := [.lit (.bool true)], args := [d1, d2] }
  | _ => none }
def fnExactBlockNormalRow : OpenClaim := { program := "ytiagofjakfbnjaa", sum := "30514c7227f69ba9090aa19c24841db5357845c09926a09f5f1d4e4a75cc5ea7", func := "loop.example/g01237/laws.FnExactBlockNormal", spec := "fnExactBlockNormal", unfollowed := true, recurses := true, apart := false }
def FnExactBlockNormalSaid : Prop := fnExactBlockNormalRow.holds Try.pinned (OpenSpec.ofChange fnExactBlockNormalSpec)

/-- ITS FALSE NEIGHBOUR: 'it returns false'. Refute it at one input. -/
def fnExactBlockNormalWrong : ChangeSpec := { name := "fnExactBlockNormal", fn := fun _ => fun
  | [d1, d2] => { results := [.lit (.bool false)], args := [d1, d2] }
  | _ => none }
def FnExactBlockNormalWrongFalsely : Prop := fnExactBlockNormalRow.holds Try.pinned (OpenSpec.ofChange fnExactBlockNormalWrong)

/-- 'laws.FnExactMergeDesigns': WHATEVER THE INPUT: true; the input reads as it did. -/
def fnExactMergeDesignsSpec : ChangeSpec := { name := "fnExactMergeDesigns", fn := fun _ => fun
  | [d1, d2] => { results := [.lit (.bool true)], args := [d1, d2] }
  | _ => none }
def fnExactMergeDesignsRow : OpenClaim := { program := "ytiagofjakfbnjaa", sum := "30514c7227f69ba9090aa19c24841db5357845c09926a09f5f1d4e4a75cc5ea7", func := "loop.example/g01237/laws.FnExactMergeDesigns", spec := "fnExactMergeDesigns", unfollowed := true, recurses := true, apart := false }
def FnExactMergeDesignsSaid : Prop := fnExactMergeDesignsRow.holds Try.pinned (OpenSpec.ofChange fnExactMergeDesignsSpec)

/-- ITS FALSE NEIGHBOUR: 'it returns false'. Refute it at one input. -/
def fnExactMergeDesignsWrong : ChangeSpec := { name := "fnExactMergeDesigns", fn := fun _ => fun
  | [d1, d2] => { results := [.lit (.bool false)], args := [d1, d2] }
  | _ => none }
def FnExactMergeDesignsWrongFalsely : Prop := fnExactMergeDesignsRow.holds Try.pinned (OpenSpec.ofChange fnExactMergeDesignsWrong)

/- THE SECOND FORM. 'bulk': how many values and letters a reading holds, each counted each time it is reached (what is shared counts as often as it is met; a slice's spare places count too). A statement '..UptoSaid' is the law's where the arguments, and the package variables that the reading takes, are together of bulk at most 1048576: NARROWER than '..Said'. Prove '..Said' where nothing that the law and all that it calls make is longer than what came in: it says more and counts as full. Else prove '..UptoSaid'. A law counts once. -/
mutual
def uptoBulk {H : Type} : DataW H → Nat
  | .lit (.string bytes) => bytes.length + 1
  | .lit _ => 1
  | .nil => 1
  | .ptr d => uptoBulk d + 1
  | .slice elems spare => uptoBulkAll elems + uptoBulkAll spare + 1
  | .agg parts => uptoBulkAll parts + 1
  | .iface _ d => uptoBulk d + 1
  | .map entries => uptoBulkEntries entries + 1
  | .held _ => 1
def uptoBulkAll {H : Type} : List (DataW H) → Nat
  | [] => 0
  | d :: r => uptoBulk d + uptoBulkAll r
def uptoBulkEntries {H : Type} : List (Lit × DataW H) → Nat
  | [] => 0
  | x :: r => uptoBulkEntry x + uptoBulkEntries r
def uptoBulkEntry {H : Type} : Lit × DataW H → Nat
  | (.string bytes, d) => bytes.length + uptoBulk d + 1
  | (_, d) => uptoBulk d + 1
 end
def uptoSmall : (H : Type) → List (DataW H) → Bool := fun _ ds => decide (uptoBulkAll ds ≤ 1048576)
def OpenSpec.upto (s : _root_.Go.ChangeSpec) : _root_.Go.OpenSpec := { _root_.Go.OpenSpec.ofChange s with cond := some uptoSmall }

/-- 'laws.FnExactRidgeCost', WHERE WHAT IT READS IS OF BULK AT MOST 1048576: true; the input reads as it did. -/
def fnExactRidgeCostUptoRow : OpenClaim := { program := "ytiagofjakfbnjaa", sum := "30514c7227f69ba9090aa19c24841db5357845c09926a09f5f1d4e4a75cc5ea7", func := "loop.example/g01237/laws.FnExactRidgeCost", spec := "fnExactRidgeCost", unfollowed := true, recurses := true, apart := false, narrowed := true }
def FnExactRidgeCostUptoSaid : Prop := fnExactRidgeCostUptoRow.holds Try.pinned (OpenSpec.upto fnExactRidgeCostSpec)

/-- 'laws.FnExactMissesOf', WHERE WHAT IT READS IS OF BULK AT MOST 1048576: true; the input reads as it did. -/
def fnExactMissesOfUptoRow : OpenClaim := { program := "ytiagofjakfbnjaa", sum := "30514c7227f69ba9090aa19c24841db5357845c09926a09f5f1d4e4a75cc5ea7", func := "loop.example/g01237/laws.FnExactMissesOf", spec := "fnExactMissesOf", unfollowed := true, recurses := true, apart := false, narrowed := true }
def FnExactMissesOfUptoSaid : Prop := fnExactMissesOfUptoRow.holds Try.pinned (OpenSpec.upto fnExactMissesOfSpec)

/-- 'laws.FnExactWorstMiss', WHERE WHAT IT READS IS OF BULK AT MOST 1048576: true; the input reads as it did. -/
def fnExactWorstMissUptoRow : OpenClaim := { program := "ytiagofjakfbnjaa", sum := "30514c7227f69ba9090aa19c24841db5357845c09926a09f5f1d4e4a75cc5ea7", func := "loop.example/g01237/laws.FnExactWorstMiss", spec := "fnExactWorstMiss", inPlace := ["math.Float64bits", "math.Float64frombits"], unfollowed := true, recurses := true, apart := false, narrowed := true }
def FnExactWorstMissUptoSaid : Prop := fnExactWorstMissUptoRow.holds Try.pinned (OpenSpec.upto fnExactWorstMissSpec)

/-- 'laws.FnExactSourcesIn', WHERE WHAT IT READS IS OF BULK AT MOST 1048576: true; the input reads as it did. -/
def fnExactSourcesInUptoRow : OpenClaim := { program := "ytiagofjakfbnjaa", sum := "30514c7227f69ba9090aa19c24841db5357845c09926a09f5f1d4e4a75cc5ea7", func := "loop.example/g01237/laws.FnExactSourcesIn", spec := "fnExactSourcesIn", unfollowed := true, recurses := true, apart := false, narrowed := true }
def FnExactSourcesInUptoSaid : Prop := fnExactSourcesInUptoRow.holds Try.pinned (OpenSpec.upto fnExactSourcesInSpec)

/-- 'laws.FnExactBlockNormal', WHERE WHAT IT READS IS OF BULK AT MOST 1048576: true; the input reads as it did. -/
def fnExactBlockNormalUptoRow : OpenClaim := { program := "ytiagofjakfbnjaa", sum := "30514c7227f69ba9090aa19c24841db5357845c09926a09f5f1d4e4a75cc5ea7", func := "loop.example/g01237/laws.FnExactBlockNormal", spec := "fnExactBlockNormal", unfollowed := true, recurses := true, apart := false, narrowed := true }
def FnExactBlockNormalUptoSaid : Prop := fnExactBlockNormalUptoRow.holds Try.pinned (OpenSpec.upto fnExactBlockNormalSpec)

/-- 'laws.FnExactMergeDesigns', WHERE WHAT IT READS IS OF BULK AT MOST 1048576: true; the input reads as it did. -/
def fnExactMergeDesignsUptoRow : OpenClaim := { program := "ytiagofjakfbnjaa", sum := "30514c7227f69ba9090aa19c24841db5357845c09926a09f5f1d4e4a75cc5ea7", func := "loop.example/g01237/laws.FnExactMergeDesigns", spec := "fnExactMergeDesigns", unfollowed := true, recurses := true, apart := false, narrowed := true }
def FnExactMergeDesignsUptoSaid : Prop := fnExactMergeDesignsUptoRow.holds Try.pinned (OpenSpec.upto fnExactMergeDesignsSpec)

end Rows
end Go.Proofs.Ytiagofjakfbnjaa
