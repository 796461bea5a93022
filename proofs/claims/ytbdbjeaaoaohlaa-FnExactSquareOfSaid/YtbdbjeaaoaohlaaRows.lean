/-
  No cell of these rows narrows 'for every input' (looked for: loops, veiled, ifaces, maps, wideKeys, modest, calm, conditions, laid).
  DERIVED. THE GIVEN ROWS OF THIS SEAT. 6 by the template 'for every input the law returns true; each argument reads behind the call as it read before'; 0 by the template 'total and deterministic' (their statements: YtbdbjeaaoaohlaaTotals.lean).
  GIVEN WITH THE SEED: the statements are not yours to turn. If you find one false, say at which input.
  Laid BY PROGRAM, IN A SANDBOX (cutbox-rows.mjs): the forced cells as the released guide's own fill.sh prints them over the translation 1327dbd04339805c… (all of the seat's roots in one cut). By AI agents, Wed Nov 11 2026. No macro, syntax, notation, axiom, sorry.
-/
import Derived.Test.YtbdbjeaaoaohlaaChecked
import GoSem.Claim
import GoSem.ClaimJoined
import GoSem.ClaimMapViews
import Derived.JoinedTies
import Derived.KernelRfl
namespace Go.Proofs.Ytbdbjeaaoaohlaa
/- THE CELL 'sum', in the pinned program and in every row, IS THE sha256 OF THE DUMP (.gsa) THAT YtbdbjeaaoaohlaaProg.lean LOADS. Nothing in Lean hashes anything: it is a label: what it is worth is what the hold of that sum in a sandbox is worth. -/
noncomputable def Try.pinned : Pinned := { name := "ytbdbjeaaoaohlaa", sum := "1327dbd04339805c43c7339829872068c8b38ea4e14d1a97303cb550f3de3acb", checked := Try.checked }
namespace Rows
def none {H : Type} : Left H := { results := [], args := [] }

/-- 'laws.FnExactStepsOf': WHATEVER THE INPUT: true; the input reads as it did. -/
def fnExactStepsOfSpec : ChangeSpec := { name := "fnExactStepsOf", fn := fun _ => fun
  | [d1, d2] => { results := [.lit (.bool true)], args := [d1, d2] }
  | _ => none }
def fnExactStepsOfRow : OpenClaim := { program := "ytbdbjeaaoaohlaa", sum := "1327dbd04339805c43c7339829872068c8b38ea4e14d1a97303cb550f3de3acb", func := "loop.example/g01237/laws.FnExactStepsOf", spec := "fnExactStepsOf", inPlace := ["math.RoundToEven"], apart := false }
def FnExactStepsOfSaid : Prop := fnExactStepsOfRow.holds Try.pinned (OpenSpec.ofChange fnExactStepsOfSpec)

/-- ITS FALSE NEIGHBOUR: 'it returns false'. Refute it at one input. -/
def fnExactStepsOfWrong : ChangeSpec := { name := "fnExactStepsOf", fn := fun _ => fun
  | [d1, d2] => { results := [.lit (.bool false)], args := [d1, d2] }
  | _ => none }
def FnExactStepsOfWrongFalsely : Prop := fnExactStepsOfRow.holds Try.pinned (OpenSpec.ofChange fnExactStepsOfWrong)

/-- 'laws.FnExactSolveCholesky': WHATEVER THE INPUT: true; the input reads as it did. -/
def fnExactSolveCholeskySpec : ChangeSpec := { name := "fnExactSolveCholesky", fn := fun _ => fun
  | [d1, d2] => { results := [.lit (.bool true)], args := [d1, d2] }
  | _ => none }
def fnExactSolveCholeskyRow : OpenClaim := { program := "ytbdbjeaaoaohlaa", sum := "1327dbd04339805c43c7339829872068c8b38ea4e14d1a97303cb550f3de3acb", func := "loop.example/g01237/laws.FnExactSolveCholesky", spec := "fnExactSolveCholesky", apart := false }
def FnExactSolveCholeskySaid : Prop := fnExactSolveCholeskyRow.holds Try.pinned (OpenSpec.ofChange fnExactSolveCholeskySpec)

/-- ITS FALSE NEIGHBOUR: 'it returns false'. Refute it at one input. -/
def fnExactSolveCholeskyWrong : ChangeSpec := { name := "fnExactSolveCholesky", fn := fun _ => fun
  | [d1, d2] => { results := [.lit (.bool false)], args := [d1, d2] }
  | _ => none }
def FnExactSolveCholeskyWrongFalsely : Prop := fnExactSolveCholeskyRow.holds Try.pinned (OpenSpec.ofChange fnExactSolveCholeskyWrong)

/-- 'laws.FnExactValidDesign': WHATEVER THE INPUT: true; the input reads as it did. -/
def fnExactValidDesignSpec : ChangeSpec := { name := "fnExactValidDesign", fn := fun _ => fun
  | [d] => { results := [.lit (.bool true)], args := [d] }
  | _ => none }
def fnExactValidDesignRow : OpenClaim := { program := "ytbdbjeaaoaohlaa", sum := "1327dbd04339805c43c7339829872068c8b38ea4e14d1a97303cb550f3de3acb", func := "loop.example/g01237/laws.FnExactValidDesign", spec := "fnExactValidDesign", unfollowed := true, recurses := true, apart := false }
def FnExactValidDesignSaid : Prop := fnExactValidDesignRow.holds Try.pinned (OpenSpec.ofChange fnExactValidDesignSpec)

/-- ITS FALSE NEIGHBOUR: 'it returns false'. Refute it at one input. -/
def fnExactValidDesignWrong : ChangeSpec := { name := "fnExactValidDesign", fn := fun _ => fun
  | [d] => { results := [.lit (.bool false)], args := [d] }
  | _ => none }
def FnExactValidDesignWrongFalsely : Prop := fnExactValidDesignRow.holds Try.pinned (OpenSpec.ofChange fnExactValidDesignWrong)

/-- 'laws.FnExactSameDesign': WHATEVER THE INPUT: true; the input reads as it did. -/
def fnExactSameDesignSpec : ChangeSpec := { name := "fnExactSameDesign", fn := fun _ => fun
  | [d1, d2] => { results := [.lit (.bool true)], args := [d1, d2] }
  | _ => none }
def fnExactSameDesignRow : OpenClaim := { program := "ytbdbjeaaoaohlaa", sum := "1327dbd04339805c43c7339829872068c8b38ea4e14d1a97303cb550f3de3acb", func := "loop.example/g01237/laws.FnExactSameDesign", spec := "fnExactSameDesign", inPlace := ["math.Float32bits", "math.Float64bits"], unfollowed := true, recurses := true, apart := false }
def FnExactSameDesignSaid : Prop := fnExactSameDesignRow.holds Try.pinned (OpenSpec.ofChange fnExactSameDesignSpec)

/-- ITS FALSE NEIGHBOUR: 'it returns false'. Refute it at one input. -/
def fnExactSameDesignWrong : ChangeSpec := { name := "fnExactSameDesign", fn := fun _ => fun
  | [d1, d2] => { results := [.lit (.bool false)], args := [d1, d2] }
  | _ => none }
def FnExactSameDesignWrongFalsely : Prop := fnExactSameDesignRow.holds Try.pinned (OpenSpec.ofChange fnExactSameDesignWrong)

/-- 'laws.FnExactCholeskyOf': WHATEVER THE INPUT: true; the input reads as it did. -/
def fnExactCholeskyOfSpec : ChangeSpec := { name := "fnExactCholeskyOf", fn := fun _ => fun
  | [d] => { results := [.lit (.bool true)], args := [d] }
  | _ => none }
def fnExactCholeskyOfRow : OpenClaim := { program := "ytbdbjeaaoaohlaa", sum := "1327dbd04339805c43c7339829872068c8b38ea4e14d1a97303cb550f3de3acb", func := "loop.example/g01237/laws.FnExactCholeskyOf", spec := "fnExactCholeskyOf", inPlace := ["math.sqrt"], apart := false }
def FnExactCholeskyOfSaid : Prop := fnExactCholeskyOfRow.holds Try.pinned (OpenSpec.ofChange fnExactCholeskyOfSpec)

/-- ITS FALSE NEIGHBOUR: 'it returns false'. Refute it at one input. -/
def fnExactCholeskyOfWrong : ChangeSpec := { name := "fnExactCholeskyOf", fn := fun _ => fun
  | [d] => { results := [.lit (.bool false)], args := [d] }
  | _ => none }
def FnExactCholeskyOfWrongFalsely : Prop := fnExactCholeskyOfRow.holds Try.pinned (OpenSpec.ofChange fnExactCholeskyOfWrong)

/-- 'laws.FnExactSquareOf': WHATEVER THE INPUT: true; the input reads as it did. -/
def fnExactSquareOfSpec : ChangeSpec := { name := "fnExactSquareOf", fn := fun _ => fun
  | [d1, d2] => { results := [.lit (.bool true)], args := [d1, d2] }
  | _ => none }
def fnExactSquareOfRow : OpenClaim := { program := "ytbdbjeaaoaohlaa", sum := "1327dbd04339805c43c7339829872068c8b38ea4e14d1a97303cb550f3de3acb", func := "loop.example/g01237/laws.FnExactSquareOf", spec := "fnExactSquareOf", unfollowed := true, recurses := true, apart := false }
def FnExactSquareOfSaid : Prop := fnExactSquareOfRow.holds Try.pinned (OpenSpec.ofChange fnExactSquareOfSpec)

/-- ITS FALSE NEIGHBOUR: 'it returns false'. Refute it at one input. -/
def fnExactSquareOfWrong : ChangeSpec := { name := "fnExactSquareOf", fn := fun _ => fun
  | [d1, d2] => { results := [.lit (.bool false)], args := [d1, d2] }
  | _ => none }
def FnExactSquareOfWrongFalsely : Prop := fnExactSquareOfRow.holds Try.pinned (OpenSpec.ofChange fnExactSquareOfWrong)

/- THE SECOND FORM. 'bulk': how many values and letters a reading holds, each counted each time it is reached (what is shared counts as often as it is met; a slice's spare places count too). A statement '..UptoSaid' is the law's where the arguments, and the package variables that the reading takes, are together of bulk at most 1048576: NARROWER than '..Said'. Prove '..Said' where nothing that the law and all that it calls make is longer than what came in: it says more and counts as full. Else prove '..UptoSaid'. A law counts once. -/
mutual
def uptoBulk {H : Type} : DataW H → Nat
  | .lit (.string bytes) => bytes.length + 1
  | .lit _ => 1
  | .nil => 1
  | .ptr d => uptoBulk d + 1
  | .slice elems spare => uptoBulkAll elems + uptoBulkAll spare + 1
  | .agg parts => uptoBulkAll parts + 1
  | .iface _ d => uptoBulk d + 1
  | .map entries => uptoBulkEntries entries + 1
  | .held _ => 1
def uptoBulkAll {H : Type} : List (DataW H) → Nat
  | [] => 0
  | d :: r => uptoBulk d + uptoBulkAll r
def uptoBulkEntries {H : Type} : List (Lit × DataW H) → Nat
  | [] => 0
  | x :: r => uptoBulkEntry x + uptoBulkEntries r
def uptoBulkEntry {H : Type} : Lit × DataW H → Nat
  | (.string bytes, d) => bytes.length + uptoBulk d + 1
  | (_, d) => uptoBulk d + 1
 end
def uptoSmall : (H : Type) → List (DataW H) → Bool := fun _ ds => decide (uptoBulkAll ds ≤ 1048576)
def OpenSpec.upto (s : _root_.Go.ChangeSpec) : _root_.Go.OpenSpec := { _root_.Go.OpenSpec.ofChange s with cond := some uptoSmall }

/-- 'laws.FnExactStepsOf', WHERE WHAT IT READS IS OF BULK AT MOST 1048576: true; the input reads as it did. -/
def fnExactStepsOfUptoRow : OpenClaim := { program := "ytbdbjeaaoaohlaa", sum := "1327dbd04339805c43c7339829872068c8b38ea4e14d1a97303cb550f3de3acb", func := "loop.example/g01237/laws.FnExactStepsOf", spec := "fnExactStepsOf", inPlace := ["math.RoundToEven"], apart := false, narrowed := true }
def FnExactStepsOfUptoSaid : Prop := fnExactStepsOfUptoRow.holds Try.pinned (OpenSpec.upto fnExactStepsOfSpec)

/-- 'laws.FnExactSolveCholesky', WHERE WHAT IT READS IS OF BULK AT MOST 1048576: true; the input reads as it did. -/
def fnExactSolveCholeskyUptoRow : OpenClaim := { program := "ytbdbjeaaoaohlaa", sum := "1327dbd04339805c43c7339829872068c8b38ea4e14d1a97303cb550f3de3acb", func := "loop.example/g01237/laws.FnExactSolveCholesky", spec := "fnExactSolveCholesky", apart := false, narrowed := true }
def FnExactSolveCholeskyUptoSaid : Prop := fnExactSolveCholeskyUptoRow.holds Try.pinned (OpenSpec.upto fnExactSolveCholeskySpec)

/-- 'laws.FnExactValidDesign', WHERE WHAT IT READS IS OF BULK AT MOST 1048576: true; the input reads as it did. -/
def fnExactValidDesignUptoRow : OpenClaim := { program := "ytbdbjeaaoaohlaa", sum := "1327dbd04339805c43c7339829872068c8b38ea4e14d1a97303cb550f3de3acb", func := "loop.example/g01237/laws.FnExactValidDesign", spec := "fnExactValidDesign", unfollowed := true, recurses := true, apart := false, narrowed := true }
def FnExactValidDesignUptoSaid : Prop := fnExactValidDesignUptoRow.holds Try.pinned (OpenSpec.upto fnExactValidDesignSpec)

/-- 'laws.FnExactSameDesign', WHERE WHAT IT READS IS OF BULK AT MOST 1048576: true; the input reads as it did. -/
def fnExactSameDesignUptoRow : OpenClaim := { program := "ytbdbjeaaoaohlaa", sum := "1327dbd04339805c43c7339829872068c8b38ea4e14d1a97303cb550f3de3acb", func := "loop.example/g01237/laws.FnExactSameDesign", spec := "fnExactSameDesign", inPlace := ["math.Float32bits", "math.Float64bits"], unfollowed := true, recurses := true, apart := false, narrowed := true }
def FnExactSameDesignUptoSaid : Prop := fnExactSameDesignUptoRow.holds Try.pinned (OpenSpec.upto fnExactSameDesignSpec)

/-- 'laws.FnExactCholeskyOf', WHERE WHAT IT READS IS OF BULK AT MOST 1048576: true; the input reads as it did. -/
def fnExactCholeskyOfUptoRow : OpenClaim := { program := "ytbdbjeaaoaohlaa", sum := "1327dbd04339805c43c7339829872068c8b38ea4e14d1a97303cb550f3de3acb", func := "loop.example/g01237/laws.FnExactCholeskyOf", spec := "fnExactCholeskyOf", inPlace := ["math.sqrt"], apart := false, narrowed := true }
def FnExactCholeskyOfUptoSaid : Prop := fnExactCholeskyOfUptoRow.holds Try.pinned (OpenSpec.upto fnExactCholeskyOfSpec)

/-- 'laws.FnExactSquareOf', WHERE WHAT IT READS IS OF BULK AT MOST 1048576: true; the input reads as it did. -/
def fnExactSquareOfUptoRow : OpenClaim := { program := "ytbdbjeaaoaohlaa", sum := "1327dbd04339805c43c7339829872068c8b38ea4e14d1a97303cb550f3de3acb", func := "loop.example/g01237/laws.FnExactSquareOf", spec := "fnExactSquareOf", unfollowed := true, recurses := true, apart := false, narrowed := true }
def FnExactSquareOfUptoSaid : Prop := fnExactSquareOfUptoRow.holds Try.pinned (OpenSpec.upto fnExactSquareOfSpec)

end Rows
end Go.Proofs.Ytbdbjeaaoaohlaa
