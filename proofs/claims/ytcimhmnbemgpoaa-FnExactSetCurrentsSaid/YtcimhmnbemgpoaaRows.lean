/-
  No cell of these rows narrows 'for every input' (looked for: loops, veiled, ifaces, maps, wideKeys, modest, calm, conditions, laid).
  DERIVED. THE GIVEN ROWS OF THIS SEAT. 12 by the template 'for every input the law returns true; each argument reads behind the call as it read before'; 0 by the template 'total and deterministic' (their statements: YtcimhmnbemgpoaaTotals.lean).
  GIVEN WITH THE SEED: the statements are not yours to turn. If you find one false, say at which input.
  Laid BY PROGRAM, IN A SANDBOX (cutbox-rows.mjs): the forced cells as the released guide's own fill.sh prints them over the translation f0d6b000e3748365… (all of the seat's roots in one cut). By AI agents, Wed Nov 11 2026. No macro, syntax, notation, axiom, sorry.
-/
import Derived.Test.YtcimhmnbemgpoaaChecked
import GoSem.Claim
import GoSem.ClaimJoined
import GoSem.ClaimMapViews
import Derived.JoinedTies
import Derived.KernelRfl
namespace Go.Proofs.Ytcimhmnbemgpoaa
/- THE CELL 'sum', in the pinned program and in every row, IS THE sha256 OF THE DUMP (.gsa) THAT YtcimhmnbemgpoaaProg.lean LOADS. Nothing in Lean hashes anything: it is a label: what it is worth is what the hold of that sum in a sandbox is worth. -/
noncomputable def Try.pinned : Pinned := { name := "ytcimhmnbemgpoaa", sum := "f0d6b000e37483653a885f83377c042ea300602decb3bf29463255a4ae2fb0da", checked := Try.checked }
namespace Rows
def none {H : Type} : Left H := { results := [], args := [] }

/-- 'laws.FnExactWorstMiss': WHATEVER THE INPUT: true; the input reads as it did. -/
def fnExactWorstMissSpec : ChangeSpec := { name := "fnExactWorstMiss", fn := fun _ => fun
  | [d1, d2] => { results := [.lit (.bool true)], args := [d1, d2] }
  | _ => none }
def fnExactWorstMissRow : OpenClaim := { program := "ytcimhmnbemgpoaa", sum := "f0d6b000e37483653a885f83377c042ea300602decb3bf29463255a4ae2fb0da", func := "loop.example/g01237/laws.FnExactWorstMiss", spec := "fnExactWorstMiss", inPlace := ["math.Float64bits", "math.Float64frombits"], unfollowed := true, recurses := true, apart := false }
def FnExactWorstMissSaid : Prop := fnExactWorstMissRow.holds Try.pinned (OpenSpec.ofChange fnExactWorstMissSpec)

/-- ITS FALSE NEIGHBOUR: 'it returns false'. Refute it at one input. -/
def fnExactWorstMissWrong : ChangeSpec := { name := "fnExactWorstMiss", fn := fun _ => fun
  | [d1, d2] => { results := [.lit (.bool false)], args := [d1, d2] }
  | _ => none }
def FnExactWorstMissWrongFalsely : Prop := fnExactWorstMissRow.holds Try.pinned (OpenSpec.ofChange fnExactWorstMissWrong)

/-- 'laws.FnExactSourcesIn': WHATEVER THE INPUT: true; the input reads as it did. -/
def fnExactSourcesInSpec : ChangeSpec := { name := "fnExactSourcesIn", fn := fun _ => fun
  | [d] => { results := [.lit (.bool true)], args := [d] }
  | _ => none }
def fnExactSourcesInRow : OpenClaim := { program := "ytcimhmnbemgpoaa", sum := "f0d6b000e37483653a885f83377c042ea300602decb3bf29463255a4ae2fb0da", func := "loop.example/g01237/laws.FnExactSourcesIn", spec := "fnExactSourcesIn", unfollowed := true, recurses := true, apart := false }
def FnExactSourcesInSaid : Prop := fnExactSourcesInRow.holds Try.pinned (OpenSpec.ofChange fnExactSourcesInSpec)

/-- ITS FALSE NEIGHBOUR: 'it returns false'. Refute it at one input. -/
def fnExactSourcesInWrong : ChangeSpec := { name := "fnExactSourcesIn", fn := fun _ => fun
  | [d] => { results := [.lit (.bool false)], args := [d] }
  | _ => none }
def FnExactSourcesInWrongFalsely : Prop := fnExactSourcesInRow.holds Try.pinned (OpenSpec.ofChange fnExactSourcesInWrong)

/-- 'laws.FnExactBlockNormal': WHATEVER THE INPUT: true; the input reads as it did. -/
def fnExactBlockNormalSpec : ChangeSpec := { name := "fnExactBlockNormal", fn := fun _ => fun
  | [d1, d2] => { results := [.lit (.bool true)], args := [d1, d2] }
  | _ => none }
def fnExactBlockNormalRow : OpenClaim := { program := "ytcimhmnbemgpoaa", sum := "f0d6b000e37483653a885f83377c042ea300602decb3bf29463255a4ae2fb0da", func := "loop.example/g01237/laws.FnExactBlockNormal", spec := "fnExactBlockNormal", unfollowed := true, recurses := true, apart := false }
def FnExactBlockNormalSaid : Prop := fnExactBlockNormalRow.holds Try.pinned (OpenSpec.ofChange fnExactBlockNormalSpec)

/-- ITS FALSE NEIGHBOUR: 'it returns false'. Refute it at one input. -/
def fnExactBlockNormalWrong : ChangeSpec := { name := "fnExactBlockNormal", fn := fun _ => fun
  | [d1, d2] => { results := [.lit (.bool false)], args := [d1, d2] }
  | _ => none }
def FnExactBlockNormalWrongFalsely : Prop := fnExactBlockNormalRow.holds Try.pinned (OpenSpec.ofChange fnExactBlockNormalWrong)

/-- 'laws.FnExactMergeDesigns': WHATEVER THE INPUT: true; the input reads as it did. -/
def fnExactMergeDesignsSpec : ChangeSpec := { name := "fnExactMergeDesigns", fn := fun _ => fun
  | [d1, d2] => { results := [.lit (.bool true)], args := [d1, d2] }
  | _ => none }
def fnExactMergeDesignsRow : OpenClaim := { program := "ytcimhmnbemgpoaa", sum := "f0d6b000e37483653a885f83377c042ea300602decb3bf29463255a4ae2fb0da", func := "loop.example/g01237/laws.FnExactMergeDesigns", spec := "fnExactMergeDesigns", unfollowed := true, recurses := true, apart := false }
def FnExactMergeDesignsSaid : Prop := fnExactMergeDesignsRow.holds Try.pinned (OpenSpec.ofChange fnExactMergeDesignsSpec)

/-- ITS FALSE NEIGHBOUR: 'it returns false'. Refute it at one input. -/
def fnExactMergeDesignsWrong : ChangeSpec := { name := "fnExactMergeDesigns", fn := fun _ => fun
  | [d1, d2] => { results := [.lit (.bool false)], args := [d1, d2] }
  | _ => none }
def FnExactMergeDesignsWrongFalsely : Prop := fnExactMergeDesignsRow.holds Try.pinned (OpenSpec.ofChange fnExactMergeDesignsWrong)

/-- 'laws.FnExactAddRow': WHATEVER THE INPUT: true; the input reads as it did. -/
def fnExactAddRowSpec : ChangeSpec := { name := "fnExactAddRow", fn := fun _ => fun
  | [d1, d2, d3, d4] => { results := [.lit (.bool true)], args := [d1, d2, d3, d4] }
  | _ => none }
def fnExactAddRowRow : OpenClaim := { program := "ytcimhmnbemgpoaa", sum := "f0d6b000e37483653a885f83377c042ea300602decb3bf29463255a4ae2fb0da", func := "loop.example/g01237/laws.FnExactAddRow", spec := "fnExactAddRow", unfollowed := true, recurses := true, apart := false }
def FnExactAddRowSaid : Prop := fnExactAddRowRow.holds Try.pinned (OpenSpec.ofChange fnExactAddRowSpec)

/-- ITS FALSE NEIGHBOUR: 'it returns false'. Refute it at one input. -/
def fnExactAddRowWrong : ChangeSpec := { name := "fnExactAddRow", fn := fun _ => fun
  | [d1, d2, d3, d4] => { results := [.lit (.bool false)], args := [d1, d2, d3, d4] }
  | _ => none }
def FnExactAddRowWrongFalsely : Prop := fnExactAddRowRow.holds Try.pinned (OpenSpec.ofChange fnExactAddRowWrong)

/-- 'laws.FnExactScaleColumn': WHATEVER THE INPUT: true; the input reads as it did. -/
def fnExactScaleColumnSpec : ChangeSpec := { name := "fnExactScaleColumn", fn := fun _ => fun
  | [d1, d2, d3] => { results := [.lit (.bool true)], args := [d1, d2, d3] }
  | _ => none }
def fnExactScaleColumnRow : OpenClaim := { program := "ytcimhmnbemgpoaa", sum := "f0d6b000e37483653a885f83377c042ea300602decb3bf29463255a4ae2fb0da", func := "loop.example/g01237/laws.FnExactScaleColumn", spec := "fnExactScaleColumn", unfollowed := true, recurses := true, apart := false }
def FnExactScaleColumnSaid : Prop := fnExactScaleColumnRow.holds Try.pinned (OpenSpec.ofChange fnExactScaleColumnSpec)

/-- ITS FALSE NEIGHBOUR: 'it returns false'. Refute it at one input. -/
def fnExactScaleColumnWrong : ChangeSpec := { name := "fnExactScaleColumn", fn := fun _ => fun
  | [d1, d2, d3] => { results := [.lit (.bool false)], args := [d1, d2, d3] }
  | _ => none }
def FnExactScaleColumnWrongFalsely : Prop := fnExactScaleColumnRow.holds Try.pinned (OpenSpec.ofChange fnExactScaleColumnWrong)

/-- 'laws.FnExactLimitCurrents': WHATEVER THE INPUT: true; the input reads as it did. -/
def fnExactLimitCurrentsSpec : ChangeSpec := { name := "fnExactLimitCurrents", fn := fun _ => fun
  | [d1, d2, d3, d4] => { results := [.lit (.bool true)], args := [d1, d2, d3, d4] }
  | _ => none }
def fnExactLimitCurrentsRow : OpenClaim := { program := "ytcimhmnbemgpoaa", sum := "f0d6b000e37483653a885f83377c042ea300602decb3bf29463255a4ae2fb0da", func := "loop.example/g01237/laws.FnExactLimitCurrents", spec := "fnExactLimitCurrents", unfollowed := true, recurses := true, apart := false }
def FnExactLimitCurrentsSaid : Prop := fnExactLimitCurrentsRow.holds Try.pinned (OpenSpec.ofChange fnExactLimitCurrentsSpec)

/-- ITS FALSE NEIGHBOUR: 'it returns false'. Refute it at one input. -/
def fnExactLimitCurrentsWrong : ChangeSpec := { name := "fnExactLimitCurrents", fn := fun _ => fun
  | [d1, d2, d3, d4] => { results := [.lit (.bool false)], args := [d1, d2, d3, d4] }
  | _ => none }
def FnExactLimitCurrentsWrongFalsely : Prop := fnExactLimitCurrentsRow.holds Try.pinned (OpenSpec.ofChange fnExactLimitCurrentsWrong)

/-- 'laws.FnExactDropRow': WHATEVER THE INPUT: true; the input reads as it did. -/
def fnExactDropRowSpec : ChangeSpec := { name := "fnExactDropRow", fn := fun _ => fun
  | [d1, d2] => { results := [.lit (.bool true)], args := [d1, d2] }
  | _ => none }
def fnExactDropRowRow : OpenClaim := { program := "ytcimhmnbemgpoaa", sum := "f0d6b000e37483653a885f83377c042ea300602decb3bf29463255a4ae2fb0da", func := "loop.example/g01237/laws.FnExactDropRow", spec := "fnExactDropRow", unfollowed := true, recurses := true, apart := false }
def FnExactDropRowSaid : Prop := fnExactDropRowRow.holds Try.pinned (OpenSpec.ofChange fnExactDropRowSpec)

/-- ITS FALSE NEIGHBOUR: 'it returns false'. Refute it at one input. -/
def fnExactDropRowWrong : ChangeSpec := { name := "fnExactDropRow", fn := fun _ => fun
  | [d1, d2] => { results := [.lit (.bool false)], args := [d1, d2] }
  | _ => none }
def FnExactDropRowWrongFalsely : Prop := fnExactDropRowRow.holds Try.pinned (OpenSpec.ofChange fnExactDropRowWrong)

/-- 'laws.FnExactSetCurrents': WHATEVER THE INPUT: true; the input reads as it did. -/
def fnExactSetCurrentsSpec : ChangeSpec := { name := "fnExactSetCurrents", fn := fun _ => fun
  | [d1, d2] => { results := [.lit (.bool true)], args := [d1, d2] }
  | _ => none }
def fnExactSetCurrentsRow : OpenClaim := { program := "ytcimhmnbemgpoaa", sum := "f0d6b000e37483653a885f83377c042ea300602decb3bf29463255a4ae2fb0da", func := "loop.example/g01237/laws.FnExactSetCurrents", spec := "fnExactSetCurrents", unfollowed := true, recurses := true, apart := false }
def FnExactSetCurrentsSaid : Prop := fnExactSetCurrentsRow.holds Try.pinned (OpenSpec.ofChange fnExactSetCurrentsSpec)

/-- ITS FALSE NEIGHBOUR: 'it returns false'. Refute it at one input. -/
def fnExactSetCurrentsWrong : ChangeSpec := { name := "fnExactSetCurrents", fn := fun _ => fun
  | [d1, d2] => { results := [.lit (.bool false)], args := [d1, d2] }
  | _ => none }
def FnExactSetCurrentsWrongFalsely : Prop := fnExactSetCurrentsRow.holds Try.pinned (OpenSpec.ofChange fnExactSetCurrentsWrong)

/-- 'laws.FnExactImproveSteps': WHATEVER THE INPUT: true; the input reads as it did. -/
def fnExactImproveStepsSpec : ChangeSpec := { name := "fnExactImproveSteps", fn := fun _ => fun
  | [d1, d2, d3, d4] => { results := [.lit (.bool true)], args := [d1, d2, d3, d4] }
  | _ => none }
def fnExactImproveStepsRow : OpenClaim := { program := "ytcimhmnbemgpoaa", sum := "f0d6b000e37483653a885f83377c042ea300602decb3bf29463255a4ae2fb0da", func := "loop.example/g01237/laws.FnExactImproveSteps", spec := "fnExactImproveSteps", unfollowed := true, recurses := true, apart := false }
def FnExactImproveStepsSaid : Prop := fnExactImproveStepsRow.holds Try.pinned (OpenSpec.ofChange fnExactImproveStepsSpec)

/-- ITS FALSE NEIGHBOUR: 'it returns false'. Refute it at one input. -/
def fnExactImproveStepsWrong : ChangeSpec := { name := "fnExactImproveSteps", fn := fun _ => fun
  | [d1, d2, d3, d4] => { results := [.lit (.bool false)], args := [d1, d2, d3, d4] }
  | _ => none }
def FnExactImproveStepsWrongFalsely : Prop := fnExactImproveStepsRow.holds Try.pinned (OpenSpec.ofChange fnExactImproveStepsWrong)

/-- 'laws.FnExactSignsOf': WHATEVER THE INPUT: true; the input reads as it did. -/
def fnExactSignsOfSpec : ChangeSpec := { name := "fnExactSignsOf", fn := fun _ => fun
  | [d1, d2, d3] => { results := [.lit (.bool true)], args := [d1, d2, d3] }
  | _ => none }
def fnExactSignsOfRow : OpenClaim := { program := "ytcimhmnbemgpoaa", sum := "f0d6b000e37483653a885f83377c042ea300602decb3bf29463255a4ae2fb0da", func := "loop.example/g01237/laws.FnExactSignsOf", spec := "fnExactSignsOf", unfollowed := true, recurses := true, apart := false }
def FnExactSignsOfSaid : Prop := fnExactSignsOfRow.holds Try.pinned (OpenSpec.ofChange fnExactSignsOfSpec)

/-- ITS FALSE NEIGHBOUR: 'it returns false'. Refute it at one input. -/
def fnExactSignsOfWrong : ChangeSpec := { name := "fnExactSignsOf", fn := fun _ => fun
  | [d1, d2, d3] => { results := [.lit (.bool false)], args := [d1, d2, d3] }
  | _ => none }
def FnExactSignsOfWrongFalsely : Prop := fnExactSignsOfRow.holds Try.pinned (OpenSpec.ofChange fnExactSignsOfWrong)

/-- 'laws.FnExactPackMesh': WHATEVER THE INPUT: true; the input reads as it did. -/
def fnExactPackMeshSpec : ChangeSpec := { name := "fnExactPackMesh", fn := fun _ => fun
  | [d] => { results := [.lit (.bool true)], args := [d] }
  | _ => none }
def fnExactPackMeshRow : OpenClaim := { program := "ytcimhmnbemgpoaa", sum := "f0d6b000e37483653a885f83377c042ea300602decb3bf29463255a4ae2fb0da", func := "loop.example/g01237/laws.FnExactPackMesh", spec := "fnExactPackMesh", inPlace := ["math.Float32bits", "math.RoundToEven", "math.Float64bits", "math.Float64frombits"], apart := false }
def FnExactPackMeshSaid : Prop := fnExactPackMeshRow.holds Try.pinned (OpenSpec.ofChange fnExactPackMeshSpec)

/-- ITS FALSE NEIGHBOUR: 'it returns false'. Refute it at one input. -/
def fnExactPackMeshWrong : ChangeSpec := { name := "fnExactPackMesh", fn := fun _ => fun
  | [d] => { results := [.lit (.bool false)], args := [d] }
  | _ => none }
def FnExactPackMeshWrongFalsely : Prop := fnExactPackMeshRow.holds Try.pinned (OpenSpec.ofChange fnExactPackMeshWrong)

/- THE SECOND FORM. 'bulk': how many values and letters a reading holds, each counted each time it is reached (what is shared counts as often as it is met; a slice's spare places count too). A statement '..UptoSaid' is the law's where the arguments, and the package variables that the reading takes, are together of bulk at most 1048576: NARROWER than '..Said'. Prove '..Said' where nothing that the law and all that it calls make is longer than what came in: it says more and counts as full. Else prove '..UptoSaid'. A law counts once. -/
mutual
def uptoBulk {H : Type} : DataW H → Nat
  | .lit (.string bytes) => bytes.length + 1
  | .lit _ => 1
  | .nil => 1
  | .ptr d => uptoBulk d + 1
  | .slice elems spare => uptoBulkAll elems + uptoBulkAll spare + 1
  | .agg parts => uptoBulkAll parts + 1
  | .iface _ d => uptoBulk d + 1
  | .map entries => uptoBulkEntries entries + 1
  | .held _ => 1
def uptoBulkAll {H : Type} : List (DataW H) → Nat
  | [] => 0
  | d :: r => uptoBulk d + uptoBulkAll r
def uptoBulkEntries {H : Type} : List (Lit × DataW H) → Nat
  | [] => 0
  | x :: r => uptoBulkEntry x + uptoBulkEntries r
def uptoBulkEntry {H : Type} : Lit × DataW H → Nat
  | (.string bytes, d) => bytes.length + uptoBulk d + 1
  | (_, d) => uptoBulk d + 1
 end
def uptoSmall : (H : Type) → List (DataW H) → Bool := fun _ ds => decide (uptoBulkAll ds ≤ 1048576)
def OpenSpec.upto (s : _root_.Go.ChangeSpec) : _root_.Go.OpenSpec := { _root_.Go.OpenSpec.ofChange s with cond := some uptoSmall }

/-- 'laws.FnExactWorstMiss', WHERE WHAT IT READS IS OF BULK AT MOST 1048576: true; the input reads as it did. -/
def fnExactWorstMissUptoRow : OpenClaim := { program := "ytcimhmnbemgpoaa", sum := "f0d6b000e37483653a885f83377c042ea300602decb3bf29463255a4ae2fb0da", func := "loop.example/g01237/laws.FnExactWorstMiss", spec := "fnExactWorstMiss", inPlace := ["math.Float64bits", "math.Float64frombits"], unfollowed := true, recurses := true, apart := false, narrowed := true }
def FnExactWorstMissUptoSaid : Prop := fnExactWorstMissUptoRow.holds Try.pinned (OpenSpec.upto fnExactWorstMissSpec)

/-- 'laws.FnExactSourcesIn', WHERE WHAT IT READS IS OF BULK AT MOST 1048576: true; the input reads as it did. -/
def fnExactSourcesInUptoRow : OpenClaim := { program := "ytcimhmnbemgpoaa", sum := "f0d6b000e37483653a885f83377c042ea300602decb3bf29463255a4ae2fb0da", func := "loop.example/g01237/laws.FnExactSourcesIn", spec := "fnExactSourcesIn", unfollowed := true, recurses := true, apart := false, narrowed := true }
def FnExactSourcesInUptoSaid : Prop := fnExactSourcesInUptoRow.holds Try.pinned (OpenSpec.upto fnExactSourcesInSpec)

/-- 'laws.FnExactBlockNormal', WHERE WHAT IT READS IS OF BULK AT MOST 1048576: true; the input reads as it did. -/
def fnExactBlockNormalUptoRow : OpenClaim := { program := "ytcimhmnbemgpoaa", sum := "f0d6b000e37483653a885f83377c042ea300602decb3bf29463255a4ae2fb0da", func := "loop.example/g01237/laws.FnExactBlockNormal", spec := "fnExactBlockNormal", unfollowed := true, recurses := true, apart := false, narrowed := true }
def FnExactBlockNormalUptoSaid : Prop := fnExactBlockNormalUptoRow.holds Try.pinned (OpenSpec.upto fnExactBlockNormalSpec)

/-- 'laws.FnExactMergeDesigns', WHERE WHAT IT READS IS OF BULK AT MOST 1048576: true; the input reads as it did. -/
def fnExactMergeDesignsUptoRow : OpenClaim := { program := "ytcimhmnbemgpoaa", sum := "f0d6b000e37483653a885f83377c042ea300602decb3bf29463255a4ae2fb0da", func := "loop.example/g01237/laws.FnExactMergeDesigns", spec := "fnExactMergeDesigns", unfollowed := true, recurses := true, apart := false, narrowed := true }
def FnExactMergeDesignsUptoSaid : Prop := fnExactMergeDesignsUptoRow.holds Try.pinned (OpenSpec.upto fnExactMergeDesignsSpec)

/-- 'laws.FnExactAddRow', WHERE WHAT IT READS IS OF BULK AT MOST 1048576: true; the input reads as it did. -/
def fnExactAddRowUptoRow : OpenClaim := { program := "ytcimhmnbemgpoaa", sum := "f0d6b000e37483653a885f83377c042ea300602decb3bf29463255a4ae2fb0da", func := "loop.example/g01237/laws.FnExactAddRow", spec := "fnExactAddRow", unfollowed := true, recurses := true, apart := false, narrowed := true }
def FnExactAddRowUptoSaid : Prop := fnExactAddRowUptoRow.holds Try.pinned (OpenSpec.upto fnExactAddRowSpec)

/-- 'laws.FnExactScaleColumn', WHERE WHAT IT READS IS OF BULK AT MOST 1048576: true; the input reads as it did. -/
def fnExactScaleColumnUptoRow : OpenClaim := { program := "ytcimhmnbemgpoaa", sum := "f0d6b000e37483653a885f83377c042ea300602decb3bf29463255a4ae2fb0da", func := "loop.example/g01237/laws.FnExactScaleColumn", spec := "fnExactScaleColumn", unfollowed := true, recurses := true, apart := false, narrowed := true }
def FnExactScaleColumnUptoSaid : Prop := fnExactScaleColumnUptoRow.holds Try.pinned (OpenSpec.upto fnExactScaleColumnSpec)

/-- 'laws.FnExactLimitCurrents', WHERE WHAT IT READS IS OF BULK AT MOST 1048576: true; the input reads as it did. -/
def fnExactLimitCurrentsUptoRow : OpenClaim := { program := "ytcimhmnbemgpoaa", sum := "f0d6b000e37483653a885f83377c042ea300602decb3bf29463255a4ae2fb0da", func := "loop.example/g01237/laws.FnExactLimitCurrents", spec := "fnExactLimitCurrents", unfollowed := true, recurses := true, apart := false, narrowed := true }
def FnExactLimitCurrentsUptoSaid : Prop := fnExactLimitCurrentsUptoRow.holds Try.pinned (OpenSpec.upto fnExactLimitCurrentsSpec)

/-- 'laws.FnExactDropRow', WHERE WHAT IT READS IS OF BULK AT MOST 1048576: true; the input reads as it did. -/
def fnExactDropRowUptoRow : OpenClaim := { program := "ytcimhmnbemgpoaa", sum := "f0d6b000e37483653a885f83377c042ea300602decb3bf29463255a4ae2fb0da", func := "loop.example/g01237/laws.FnExactDropRow", spec := "fnExactDropRow", unfollowed := true, recurses := true, apart := false, narrowed := true }
def FnExactDropRowUptoSaid : Prop := fnExactDropRowUptoRow.holds Try.pinned (OpenSpec.upto fnExactDropRowSpec)

/-- 'laws.FnExactSetCurrents', WHERE WHAT IT READS IS OF BULK AT MOST 1048576: true; the input reads as it did. -/
def fnExactSetCurrentsUptoRow : OpenClaim := { program := "ytcimhmnbemgpoaa", sum := "f0d6b000e37483653a885f83377c042ea300602decb3bf29463255a4ae2fb0da", func := "loop.example/g01237/laws.FnExactSetCurrents", spec := "fnExactSetCurrents", unfollowed := true, recurses := true, apart := false, narrowed := true }
def FnExactSetCurrentsUptoSaid : Prop := fnExactSetCurrentsUptoRow.holds Try.pinned (OpenSpec.upto fnExactSetCurrentsSpec)

/-- 'laws.FnExactImproveSteps', WHERE WHAT IT READS IS OF BULK AT MOST 1048576: true; the input reads as it did. -/
def fnExactImproveStepsUptoRow : OpenClaim := { program := "ytcimhmnbemgpoaa", sum := "f0d6b000e37483653a885f83377c042ea300602decb3bf29463255a4ae2fb0da", func := "loop.example/g01237/laws.FnExactImproveSteps", spec := "fnExactImproveSteps", unfollowed := true, recurses := true, apart := false, narrowed := true }
def FnExactImproveStepsUptoSaid : Prop := fnExactImproveStepsUptoRow.holds Try.pinned (OpenSpec.upto fnExactImproveStepsSpec)

/-- 'laws.FnExactSignsOf', WHERE WHAT IT READS IS OF BULK AT MOST 1048576: true; the input reads as it did. -/
def fnExactSignsOfUptoRow : OpenClaim := { program := "ytcimhmnbemgpoaa", sum := "f0d6b000e37483653a885f83377c042ea300602decb3bf29463255a4ae2fb0da", func := "loop.example/g01237/laws.FnExactSignsOf", spec := "fnExactSignsOf", unfollowed := true, recurses := true, apart := false, narrowed := true }
def FnExactSignsOfUptoSaid : Prop := fnExactSignsOfUptoRow.holds Try.pinned (OpenSpec.upto fnExactSignsOfSpec)

/-- 'laws.FnExactPackMesh', WHERE WHAT IT READS IS OF BULK AT MOST 1048576: true; the input reads as it did. -/
def fnExactPackMeshUptoRow : OpenClaim := { program := "ytcimhmnbemgpoaa", sum := "f0d6b000e37483653a885f83377c042ea300602decb3bf29463255a4ae2fb0da", func := "loop.example/g01237/laws.FnExactPackMesh", spec := "fnExactPackMesh", inPlace := ["math.Float32bits", "math.RoundToEven", "math.Float64bits", "math.Float64frombits"], apart := false, narrowed := true }
def FnExactPackMeshUptoSaid : Prop := fnExactPackMeshUptoRow.holds Try.pinned (OpenSpec.upto fnExactPackMeshSpec)

end Rows
end Go.Proofs.Ytcimhmnbemgpoaa
