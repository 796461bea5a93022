/-
  No cell of these rows narrows 'for every input' (looked for: loops, veiled, ifaces, maps, wideKeys, modest, calm, conditions, laid).
  DERIVED. THE GIVEN ROWS OF THIS SEAT. 11 by the template 'for every input the law returns true; each argument reads behind the call as it read before'; 0 by the template 'total and deterministic' (their statements: YtacjcomjnabmhaaTotals.lean).
  GIVEN WITH THE SEED: the statements are not yours to turn. If you find one false, say at which input.
  Laid BY PROGRAM, IN A SANDBOX (cutbox-rows.mjs): the forced cells as the released guide's own fill.sh prints them over the translation cd99f200c894b4b4… (all of the seat's roots in one cut). By AI agents, Wed Nov 11 2026. No macro, syntax, notation, axiom, sorry.
-/
import Derived.Test.YtacjcomjnabmhaaChecked
import GoSem.Claim
import GoSem.ClaimJoined
import GoSem.ClaimMapViews
import Derived.JoinedTies
import Derived.KernelRfl
namespace Go.Proofs.Ytacjcomjnabmhaa
/- THE CELL 'sum', in the pinned program and in every row, IS THE sha256 OF THE DUMP (.gsa) THAT YtacjcomjnabmhaaProg.lean LOADS. Nothing in Lean hashes anything: it is a label: what it is worth is what the hold of that sum in a sandbox is worth. -/
noncomputable def Try.pinned : Pinned := { name := "ytacjcomjnabmhaa", sum := "cd99f200c894b4b4e14996492c4591b901e18b2bd2e1bfcc0758ce1d26a82d0e", checked := Try.checked }
namespace Rows
def none {H : Type} : Left H := { results := [], args := [] }

/-- 'laws.FnExactSourcesIn': WHATEVER THE INPUT: true; the input reads as it did. -/
def fnExactSourcesInSpec : ChangeSpec := { name := "fnExactSourcesIn", fn := fun _ => fun
  | [d] => { results := [.lit (.bool true)], args := [d] }
  | _ => none }
def fnExactSourcesInRow : OpenClaim := { program := "ytacjcomjnabmhaa", sum := "cd99f200c894b4b4e14996492c4591b901e18b2bd2e1bfcc0758ce1d26a82d0e", func := "loop.example/g01237/laws.FnExactSourcesIn", spec := "fnExactSourcesIn", unfollowed := true, recurses := true, apart := false }
def FnExactSourcesInSaid : Prop := fnExactSourcesInRow.holds Try.pinned (OpenSpec.ofChange fnExactSourcesInSpec)

/-- ITS FALSE NEIGHBOUR: 'it returns false'. Refute it at one input. -/
def fnExactSourcesInWrong : ChangeSpec := { name := "fnExactSourcesIn", fn := fun _ => fun
  | [d] => { results := [.lit (.bool false)], args := [d] }
  | _ => none }
def FnExactSourcesInWrongFalsely : Prop := fnExactSourcesInRow.holds Try.pinned (OpenSpec.ofChange fnExactSourcesInWrong)

/-- 'laws.FnExactPackMesh': WHATEVER THE INPUT: true; the input reads as it did. -/
def fnExactPackMeshSpec : ChangeSpec := { name := "fnExactPackMesh", fn := fun _ => fun
  | [d] => { results := [.lit (.bool true)], args := [d] }
  | _ => none }
def fnExactPackMeshRow : OpenClaim := { program := "ytacjcomjnabmhaa", sum := "cd99f200c894b4b4e14996492c4591b901e18b2bd2e1bfcc0758ce1d26a82d0e", func := "loop.example/g01237/laws.FnExactPackMesh", spec := "fnExactPackMesh", inPlace := ["math.Float32bits", "math.RoundToEven", "math.Float64bits", "math.Float64frombits"], apart := false }
def FnExactPackMeshSaid : Prop := fnExactPackMeshRow.holds Try.pinned (OpenSpec.ofChange fnExactPackMeshSpec)

/-- ITS FALSE NEIGHBOUR: 'it returns false'. Refute it at one input. -/
def fnExactPackMeshWrong : ChangeSpec := { name := "fnExactPackMesh", fn := fun _ => fun
  | [d] => { results := [.lit (.bool false)], args := [d] }
  | _ => none }
def FnExactPackMeshWrongFalsely : Prop := fnExactPackMeshRow.holds Try.pinned (OpenSpec.ofChange fnExactPackMeshWrong)

/-- 'laws.FnExactDropRow': WHATEVER THE INPUT: true; the input reads as it did. -/
def fnExactDropRowSpec : ChangeSpec := { name := "fnExactDropRow", fn := fun _ => fun
  | [d1, d2] => { results := [.lit (.bool true)], args := [d1, d2] }
  | _ => none }
def fnExactDropRowRow : OpenClaim := { program := "ytacjcomjnabmhaa", sum := "cd99f200c894b4b4e14996492c4591b901e18b2bd2e1bfcc0758ce1d26a82d0e", func := "loop.example/g01237/laws.FnExactDropRow", spec := "fnExactDropRow", unfollowed := true, recurses := true, apart := false }
def FnExactDropRowSaid : Prop := fnExactDropRowRow.holds Try.pinned (OpenSpec.ofChange fnExactDropRowSpec)

/-- ITS FALSE NEIGHBOUR: 'it returns false'. Refute it at one input. -/
def fnExactDropRowWrong : ChangeSpec := { name := "fnExactDropRow", fn := fun _ => fun
  | [d1, d2] => { results := [.lit (.bool false)], args := [d1, d2] }
  | _ => none }
def FnExactDropRowWrongFalsely : Prop := fnExactDropRowRow.holds Try.pinned (OpenSpec.ofChange fnExactDropRowWrong)

/-- 'laws.FnExactSignsOf': WHATEVER THE INPUT: true; the input reads as it did. -/
def fnExactSignsOfSpec : ChangeSpec := { name := "fnExactSignsOf", fn := fun _ => fun
  | [d1, d2, d3] => { results := [.lit (.bool true)], args := [d1, d2, d3] }
  | _ => none }
def fnExactSignsOfRow : OpenClaim := { program := "ytacjcomjnabmhaa", sum := "cd99f200c894b4b4e14996492c4591b901e18b2bd2e1bfcc0758ce1d26a82d0e", func := "loop.example/g01237/laws.FnExactSignsOf", spec := "fnExactSignsOf", unfollowed := true, recurses := true, apart := false }
def FnExactSignsOfSaid : Prop := fnExactSignsOfRow.holds Try.pinned (OpenSpec.ofChange fnExactSignsOfSpec)

/-- ITS FALSE NEIGHBOUR: 'it returns false'. Refute it at one input. -/
def fnExactSignsOfWrong : ChangeSpec := { name := "fnExactSignsOf", fn := fun _ => fun
  | [d1, d2, d3] => { results := [.lit (.bool false)], args := [d1, d2, d3] }
  | _ => none }
def FnExactSignsOfWrongFalsely : Prop := fnExactSignsOfRow.holds Try.pinned (OpenSpec.ofChange fnExactSignsOfWrong)

/-- 'laws.FnExactNewDesk': WHATEVER THE INPUT: true; the input reads as it did. -/
def fnExactNewDeskSpec : ChangeSpec := { name := "fnExactNewDesk", fn := fun _ => fun
  | [] => { results := [.lit (.bool true)], args := [] }
  | _ => none }
def fnExactNewDeskRow : OpenClaim := { program := "ytacjcomjnabmhaa", sum := "cd99f200c894b4b4e14996492c4591b901e18b2bd2e1bfcc0758ce1d26a82d0e", func := "loop.example/g01237/laws.FnExactNewDesk", spec := "fnExactNewDesk", apart := false }
def FnExactNewDeskSaid : Prop := fnExactNewDeskRow.holds Try.pinned (OpenSpec.ofChange fnExactNewDeskSpec)

/-- ITS FALSE NEIGHBOUR: 'it returns false'. Refute it at one input. -/
def fnExactNewDeskWrong : ChangeSpec := { name := "fnExactNewDesk", fn := fun _ => fun
  | [] => { results := [.lit (.bool false)], args := [] }
  | _ => none }
def FnExactNewDeskWrongFalsely : Prop := fnExactNewDeskRow.holds Try.pinned (OpenSpec.ofChange fnExactNewDeskWrong)

/-- 'laws.FnExactValidDesk': WHATEVER THE INPUT: true; the input reads as it did. -/
def fnExactValidDeskSpec : ChangeSpec := { name := "fnExactValidDesk", fn := fun _ => fun
  | [d] => { results := [.lit (.bool true)], args := [d] }
  | _ => none }
def fnExactValidDeskRow : OpenClaim := { program := "ytacjcomjnabmhaa", sum := "cd99f200c894b4b4e14996492c4591b901e18b2bd2e1bfcc0758ce1d26a82d0e", func := "loop.example/g01237/laws.FnExactValidDesk", spec := "fnExactValidDesk", unfollowed := true, recurses := true, apart := false }
def FnExactValidDeskSaid : Prop := fnExactValidDeskRow.holds Try.pinned (OpenSpec.ofChange fnExactValidDeskSpec)

/-- ITS FALSE NEIGHBOUR: 'it returns false'. Refute it at one input. -/
def fnExactValidDeskWrong : ChangeSpec := { name := "fnExactValidDesk", fn := fun _ => fun
  | [d] => { results := [.lit (.bool false)], args := [d] }
  | _ => none }
def FnExactValidDeskWrongFalsely : Prop := fnExactValidDeskRow.holds Try.pinned (OpenSpec.ofChange fnExactValidDeskWrong)

/-- 'laws.FnExactFillMesh': WHATEVER THE INPUT: true; the input reads as it did. -/
def fnExactFillMeshSpec : ChangeSpec := { name := "fnExactFillMesh", fn := fun _ => fun
  | [d1, d2, d3, d4, d5, d6] => { results := [.lit (.bool true)], args := [d1, d2, d3, d4, d5, d6] }
  | _ => none }
def fnExactFillMeshRow : OpenClaim := { program := "ytacjcomjnabmhaa", sum := "cd99f200c894b4b4e14996492c4591b901e18b2bd2e1bfcc0758ce1d26a82d0e", func := "loop.example/g01237/laws.FnExactFillMesh", spec := "fnExactFillMesh", inPlace := ["math.sqrt"], unfollowed := true, recurses := true, apart := false }
def FnExactFillMeshSaid : Prop := fnExactFillMeshRow.holds Try.pinned (OpenSpec.ofChange fnExactFillMeshSpec)

/-- ITS FALSE NEIGHBOUR: 'it returns false'. Refute it at one input. -/
def fnExactFillMeshWrong : ChangeSpec := { name := "fnExactFillMesh", fn := fun _ => fun
  | [d1, d2, d3, d4, d5, d6] => { results := [.lit (.bool false)], args := [d1, d2, d3, d4, d5, d6] }
  | _ => none }
def FnExactFillMeshWrongFalsely : Prop := fnExactFillMeshRow.holds Try.pinned (OpenSpec.ofChange fnExactFillMeshWrong)

/-- 'laws.FnExactWorstBetween': WHATEVER THE INPUT: true; the input reads as it did. -/
def fnExactWorstBetweenSpec : ChangeSpec := { name := "fnExactWorstBetween", fn := fun _ => fun
  | [d1, d2] => { results := [.lit (.bool true)], args := [d1, d2] }
  | _ => none }
def fnExactWorstBetweenRow : OpenClaim := { program := "ytacjcomjnabmhaa", sum := "cd99f200c894b4b4e14996492c4591b901e18b2bd2e1bfcc0758ce1d26a82d0e", func := "loop.example/g01237/laws.FnExactWorstBetween", spec := "fnExactWorstBetween", inPlace := ["math.archFloor", "math.Float64bits", "math.Float64frombits", "math.archTrunc", "math.sqrt"], unfollowed := true, recurses := true, apart := false }
def FnExactWorstBetweenSaid : Prop := fnExactWorstBetweenRow.holds Try.pinned (OpenSpec.ofChange fnExactWorstBetweenSpec)

/-- ITS FALSE NEIGHBOUR: 'it returns false'. Refute it at one input. -/
def fnExactWorstBetweenWrong : ChangeSpec := { name := "fnExactWorstBetween", fn := fun _ => fun
  | [d1, d2] => { results := [.lit (.bool false)], args := [d1, d2] }
  | _ => none }
def FnExactWorstBetweenWrongFalsely : Prop := fnExactWorstBetweenRow.holds Try.pinned (OpenSpec.ofChange fnExactWorstBetweenWrong)

/-- 'laws.FnExactFieldAtDesk': WHATEVER THE INPUT: true; the input reads as it did. -/
def fnExactFieldAtDeskSpec : ChangeSpec := { name := "fnExactFieldAtDesk", fn := fun _ => fun
  | [d1, d2] => { results := [.lit (.bool true)], args := [d1, d2] }
  | _ => none }
def fnExactFieldAtDeskRow : OpenClaim := { program := "ytacjcomjnabmhaa", sum := "cd99f200c894b4b4e14996492c4591b901e18b2bd2e1bfcc0758ce1d26a82d0e", func := "loop.example/g01237/laws.FnExactFieldAtDesk", spec := "fnExactFieldAtDesk", inPlace := ["math.sqrt"], unfollowed := true, recurses := true, apart := false }
def FnExactFieldAtDeskSaid : Prop := fnExactFieldAtDeskRow.holds Try.pinned (OpenSpec.ofChange fnExactFieldAtDeskSpec)

/-- ITS FALSE NEIGHBOUR: 'it returns false'. Refute it at one input. -/
def fnExactFieldAtDeskWrong : ChangeSpec := { name := "fnExactFieldAtDesk", fn := fun _ => fun
  | [d1, d2] => { results := [.lit (.bool false)], args := [d1, d2] }
  | _ => none }
def FnExactFieldAtDeskWrongFalsely : Prop := fnExactFieldAtDeskRow.holds Try.pinned (OpenSpec.ofChange fnExactFieldAtDeskWrong)

/-- 'laws.FnExactUnpackMesh': WHATEVER THE INPUT: true; the input reads as it did. -/
def fnExactUnpackMeshSpec : ChangeSpec := { name := "fnExactUnpackMesh", fn := fun _ => fun
  | [d] => { results := [.lit (.bool true)], args := [d] }
  | _ => none }
def fnExactUnpackMeshRow : OpenClaim := { program := "ytacjcomjnabmhaa", sum := "cd99f200c894b4b4e14996492c4591b901e18b2bd2e1bfcc0758ce1d26a82d0e", func := "loop.example/g01237/laws.FnExactUnpackMesh", spec := "fnExactUnpackMesh", inPlace := ["math.Float32frombits", "math.Float32bits", "math.RoundToEven", "math.Float64bits", "math.Float64frombits"], unfollowed := true, recurses := true, apart := false }
def FnExactUnpackMeshSaid : Prop := fnExactUnpackMeshRow.holds Try.pinned (OpenSpec.ofChange fnExactUnpackMeshSpec)

/-- ITS FALSE NEIGHBOUR: 'it returns false'. Refute it at one input. -/
def fnExactUnpackMeshWrong : ChangeSpec := { name := "fnExactUnpackMesh", fn := fun _ => fun
  | [d] => { results := [.lit (.bool false)], args := [d] }
  | _ => none }
def FnExactUnpackMeshWrongFalsely : Prop := fnExactUnpackMeshRow.holds Try.pinned (OpenSpec.ofChange fnExactUnpackMeshWrong)

/-- 'laws.FnExactRoundMesh': WHATEVER THE INPUT: true; the input reads as it did. -/
def fnExactRoundMeshSpec : ChangeSpec := { name := "fnExactRoundMesh", fn := fun _ => fun
  | [d] => { results := [.lit (.bool true)], args := [d] }
  | _ => none }
def fnExactRoundMeshRow : OpenClaim := { program := "ytacjcomjnabmhaa", sum := "cd99f200c894b4b4e14996492c4591b901e18b2bd2e1bfcc0758ce1d26a82d0e", func := "loop.example/g01237/laws.FnExactRoundMesh", spec := "fnExactRoundMesh", inPlace := ["math.Float32bits", "math.RoundToEven", "math.Float32frombits", "math.Float64bits", "math.Float64frombits"], unfollowed := true, recurses := true, apart := false }
def FnExactRoundMeshSaid : Prop := fnExactRoundMeshRow.holds Try.pinned (OpenSpec.ofChange fnExactRoundMeshSpec)

/-- ITS FALSE NEIGHBOUR: 'it returns false'. Refute it at one input. -/
def fnExactRoundMeshWrong : ChangeSpec := { name := "fnExactRoundMesh", fn := fun _ => fun
  | [d] => { results := [.lit (.bool false)], args := [d] }
  | _ => none }
def FnExactRoundMeshWrongFalsely : Prop := fnExactRoundMeshRow.holds Try.pinned (OpenSpec.ofChange fnExactRoundMeshWrong)

/- THE SECOND FORM. 'bulk': how many values and letters a reading holds, each counted each time it is reached (what is shared counts as often as it is met; a slice's spare places count too). A statement '..UptoSaid' is the law's where the arguments, and the package variables that the reading takes, are together of bulk at most 1048576: NARROWER than '..Said'. Prove '..Said' where nothing that the law and all that it calls make is longer than what came in: it says more and counts as full. Else prove '..UptoSaid'. A law counts once. -/
mutual
def uptoBulk {H : Type} : DataW H → Nat
  | .lit (.string bytes) => bytes.length + 1
  | .lit _ => 1
  | .nil => 1
  | .ptr d => uptoBulk d + 1
  | .slice elems spare => uptoBulkAll elems + uptoBulkAll spare + 1
  | .agg parts => uptoBulkAll parts + 1
  | .iface _ d => uptoBulk d + 1
  | .map entries => uptoBulkEntries entries + 1
  | .held _ => 1
def uptoBulkAll {H : Type} : List (DataW H) → Nat
  | [] => 0
  | d :: r => uptoBulk d + uptoBulkAll r
def uptoBulkEntries {H : Type} : List (Lit × DataW H) → Nat
  | [] => 0
  | x :: r => uptoBulkEntry x + uptoBulkEntries r
def uptoBulkEntry {H : Type} : Lit × DataW H → Nat
  | (.string bytes, d) => bytes.length + uptoBulk d + 1
  | (_, d) => uptoBulk d + 1
 end
def uptoSmall : (H : Type) → List (DataW H) → Bool := fun _ ds => decide (uptoBulkAll ds ≤ 1048576)
def OpenSpec.upto (s : _root_.Go.ChangeSpec) : _root_.Go.OpenSpec := { _root_.Go.OpenSpec.ofChange s with cond := some uptoSmall }

/-- 'laws.FnExactSourcesIn', WHERE WHAT IT READS IS OF BULK AT MOST 1048576: true; the input reads as it did. -/
def fnExactSourcesInUptoRow : OpenClaim := { program := "ytacjcomjnabmhaa", sum := "cd99f200c894b4b4e14996492c4591b901e18b2bd2e1bfcc0758ce1d26a82d0e", func := "loop.example/g01237/laws.FnExactSourcesIn", spec := "fnExactSourcesIn", unfollowed := true, recurses := true, apart := false, narrowed := true }
def FnExactSourcesInUptoSaid : Prop := fnExactSourcesInUptoRow.holds Try.pinned (OpenSpec.upto fnExactSourcesInSpec)

/-- 'laws.FnExactPackMesh', WHERE WHAT IT READS IS OF BULK AT MOST 1048576: true; the input reads as it did. -/
def fnExactPackMeshUptoRow : OpenClaim := { program := "ytacjcomjnabmhaa", sum := "cd99f200c894b4b4e14996492c4591b901e18b2bd2e1bfcc0758ce1d26a82d0e", func := "loop.example/g01237/laws.FnExactPackMesh", spec := "fnExactPackMesh", inPlace := ["math.Float32bits", "math.RoundToEven", "math.Float64bits", "math.Float64frombits"], apart := false, narrowed := true }
def FnExactPackMeshUptoSaid : Prop := fnExactPackMeshUptoRow.holds Try.pinned (OpenSpec.upto fnExactPackMeshSpec)

/-- 'laws.FnExactDropRow', WHERE WHAT IT READS IS OF BULK AT MOST 1048576: true; the input reads as it did. -/
def fnExactDropRowUptoRow : OpenClaim := { program := "ytacjcomjnabmhaa", sum := "cd99f200c894b4b4e14996492c4591b901e18b2bd2e1bfcc0758ce1d26a82d0e", func := "loop.example/g01237/laws.FnExactDropRow", spec := "fnExactDropRow", unfollowed := true, recurses := true, apart := false, narrowed := true }
def FnExactDropRowUptoSaid : Prop := fnExactDropRowUptoRow.holds Try.pinned (OpenSpec.upto fnExactDropRowSpec)

/-- 'laws.FnExactSignsOf', WHERE WHAT IT READS IS OF BULK AT MOST 1048576: true; the input reads as it did. -/
def fnExactSignsOfUptoRow : OpenClaim := { program := "ytacjcomjnabmhaa", sum := "cd99f200c894b4b4e14996492c4591b901e18b2bd2e1bfcc0758ce1d26a82d0e", func := "loop.example/g01237/laws.FnExactSignsOf", spec := "fnExactSignsOf", unfollowed := true, recurses := true, apart := false, narrowed := true }
def FnExactSignsOfUptoSaid : Prop := fnExactSignsOfUptoRow.holds Try.pinned (OpenSpec.upto fnExactSignsOfSpec)

/-- 'laws.FnExactNewDesk', WHERE WHAT IT READS IS OF BULK AT MOST 1048576: true; the input reads as it did. -/
def fnExactNewDeskUptoRow : OpenClaim := { program := "ytacjcomjnabmhaa", sum := "cd99f200c894b4b4e14996492c4591b901e18b2bd2e1bfcc0758ce1d26a82d0e", func := "loop.example/g01237/laws.FnExactNewDesk", spec := "fnExactNewDesk", apart := false, narrowed := true }
def FnExactNewDeskUptoSaid : Prop := fnExactNewDeskUptoRow.holds Try.pinned (OpenSpec.upto fnExactNewDeskSpec)

/-- 'laws.FnExactValidDesk', WHERE WHAT IT READS IS OF BULK AT MOST 1048576: true; the input reads as it did. -/
def fnExactValidDeskUptoRow : OpenClaim := { program := "ytacjcomjnabmhaa", sum := "cd99f200c894b4b4e14996492c4591b901e18b2bd2e1bfcc0758ce1d26a82d0e", func := "loop.example/g01237/laws.FnExactValidDesk", spec := "fnExactValidDesk", unfollowed := true, recurses := true, apart := false, narrowed := true }
def FnExactValidDeskUptoSaid : Prop := fnExactValidDeskUptoRow.holds Try.pinned (OpenSpec.upto fnExactValidDeskSpec)

/-- 'laws.FnExactFillMesh', WHERE WHAT IT READS IS OF BULK AT MOST 1048576: true; the input reads as it did. -/
def fnExactFillMeshUptoRow : OpenClaim := { program := "ytacjcomjnabmhaa", sum := "cd99f200c894b4b4e14996492c4591b901e18b2bd2e1bfcc0758ce1d26a82d0e", func := "loop.example/g01237/laws.FnExactFillMesh", spec := "fnExactFillMesh", inPlace := ["math.sqrt"], unfollowed := true, recurses := true, apart := false, narrowed := true }
def FnExactFillMeshUptoSaid : Prop := fnExactFillMeshUptoRow.holds Try.pinned (OpenSpec.upto fnExactFillMeshSpec)

/-- 'laws.FnExactWorstBetween', WHERE WHAT IT READS IS OF BULK AT MOST 1048576: true; the input reads as it did. -/
def fnExactWorstBetweenUptoRow : OpenClaim := { program := "ytacjcomjnabmhaa", sum := "cd99f200c894b4b4e14996492c4591b901e18b2bd2e1bfcc0758ce1d26a82d0e", func := "loop.example/g01237/laws.FnExactWorstBetween", spec := "fnExactWorstBetween", inPlace := ["math.archFloor", "math.Float64bits", "math.Float64frombits", "math.archTrunc", "math.sqrt"], unfollowed := true, recurses := true, apart := false, narrowed := true }
def FnExactWorstBetweenUptoSaid : Prop := fnExactWorstBetweenUptoRow.holds Try.pinned (OpenSpec.upto fnExactWorstBetweenSpec)

/-- 'laws.FnExactFieldAtDesk', WHERE WHAT IT READS IS OF BULK AT MOST 1048576: true; the input reads as it did. -/
def fnExactFieldAtDeskUptoRow : OpenClaim := { program := "ytacjcomjnabmhaa", sum := "cd99f200c894b4b4e14996492c4591b901e18b2bd2e1bfcc0758ce1d26a82d0e", func := "loop.example/g01237/laws.FnExactFieldAtDesk", spec := "fnExactFieldAtDesk", inPlace := ["math.sqrt"], unfollowed := true, recurses := true, apart := false, narrowed := true }
def FnExactFieldAtDeskUptoSaid : Prop := fnExactFieldAtDeskUptoRow.holds Try.pinned (OpenSpec.upto fnExactFieldAtDeskSpec)

/-- 'laws.FnExactUnpackMesh', WHERE WHAT IT READS IS OF BULK AT MOST 1048576: true; the input reads as it did. -/
def fnExactUnpackMeshUptoRow : OpenClaim := { program := "ytacjcomjnabmhaa", sum := "cd99f200c894b4b4e14996492c4591b901e18b2bd2e1bfcc0758ce1d26a82d0e", func := "loop.example/g01237/laws.FnExactUnpackMesh", spec := "fnExactUnpackMesh", inPlace := ["math.Float32frombits", "math.Float32bits", "math.RoundToEven", "math.Float64bits", "math.Float64frombits"], unfollowed := true, recurses := true, apart := false, narrowed := true }
def FnExactUnpackMeshUptoSaid : Prop := fnExactUnpackMeshUptoRow.holds Try.pinned (OpenSpec.upto fnExactUnpackMeshSpec)

/-- 'laws.FnExactRoundMesh', WHERE WHAT IT READS IS OF BULK AT MOST 1048576: true; the input reads as it did. -/
def fnExactRoundMeshUptoRow : OpenClaim := { program := "ytacjcomjnabmhaa", sum := "cd99f200c894b4b4e14996492c4591b901e18b2bd2e1bfcc0758ce1d26a82d0e", func := "loop.example/g01237/laws.FnExactRoundMesh", spec := "fnExactRoundMesh", inPlace := ["math.Float32bits", "math.RoundToEven", "math.Float32frombits", "math.Float64bits", "math.Float64frombits"], unfollowed := true, recurses := true, apart := false, narrowed := true }
def FnExactRoundMeshUptoSaid : Prop := fnExactRoundMeshUptoRow.holds Try.pinned (OpenSpec.upto fnExactRoundMeshSpec)

end Rows
end Go.Proofs.Ytacjcomjnabmhaa
