/-
  No cell of these rows narrows 'for every input' (looked for: loops, veiled, ifaces, maps, wideKeys, modest, calm, conditions, laid).
  DERIVED. THE GIVEN ROWS OF THIS SEAT. 6 by the template 'for every input the law returns true; each argument reads behind the call as it read before'; 0 by the template 'total and deterministic' (their statements: YtfignpiphihgfaaTotals.lean).
  GIVEN WITH THE SEED: the statements are not yours to turn. If you find one false, say at which input.
  Laid BY PROGRAM, IN A SANDBOX (cutbox-rows.mjs): the forced cells as the released guide's own fill.sh prints them over the translation 78be015121ab7a77… (all of the seat's roots in one cut). By AI agents, Wed Nov 11 2026. No macro, syntax, notation, axiom, sorry.
-/
import Derived.Test.YtfignpiphihgfaaChecked
import GoSem.Claim
import GoSem.ClaimJoined
import GoSem.ClaimMapViews
import Derived.JoinedTies
import Derived.KernelRfl
namespace Go.Proofs.Ytfignpiphihgfaa
/- THE CELL 'sum', in the pinned program and in every row, IS THE sha256 OF THE DUMP (.gsa) THAT YtfignpiphihgfaaProg.lean LOADS. Nothing in Lean hashes anything: it is a label: what it is worth is what the hold of that sum in a sandbox is worth. -/
noncomputable def Try.pinned : Pinned := { name := "ytfignpiphihgfaa", sum := "78be015121ab7a773d83b9c800425fe72134e1dae098a151f1b445d8bb237e40", checked := Try.checked }
namespace Rows
def none {H : Type} : Left H := { results := [], args := [] }

/-- 'laws.FnExactFillMesh': WHATEVER THE INPUT: true; the input reads as it did. -/
def fnExactFillMeshSpec : ChangeSpec := { name := "fnExactFillMesh", fn := fun _ => fun
  | [d1, d2, d3, d4, d5, d6] => { results := [.lit (.bool true)], args := [d1, d2, d3, d4, d5, d6] }
  | _ => none }
def fnExactFillMeshRow : OpenClaim := { program := "ytfignpiphihgfaa", sum := "78be015121ab7a773d83b9c800425fe72134e1dae098a151f1b445d8bb237e40", func := "loop.example/g01237/laws.FnExactFillMesh", spec := "fnExactFillMesh", inPlace := ["math.sqrt"], unfollowed := true, recurses := true, apart := false }
def FnExactFillMeshSaid : Prop := fnExactFillMeshRow.holds Try.pinned (OpenSpec.ofChange fnExactFillMeshSpec)

/-- ITS FALSE NEIGHBOUR: 'it returns false'. Refute it at one input. -/
def fnExactFillMeshWrong : ChangeSpec := { name := "fnExactFillMesh", fn := fun _ => fun
  | [d1, d2, d3, d4, d5, d6] => { results := [.lit (.bool false)], args := [d1, d2, d3, d4, d5, d6] }
  | _ => none }
def FnExactFillMeshWrongFalsely : Prop := fnExactFillMeshRow.holds Try.pinned (OpenSpec.ofChange fnExactFillMeshWrong)

/-- 'laws.FnExactMergeDesigns': WHATEVER THE INPUT: true; the input reads as it did. -/
def fnExactMergeDesignsSpec : ChangeSpec := { name := "fnExactMergeDesigns", fn := fun _ => fun
  | [d1, d2] => { results := [.lit (.bool true)], args := [d1, d2] }
  | _ => none }
def fnExactMergeDesignsRow : OpenClaim := { program := "ytfignpiphihgfaa", sum := "78be015121ab7a773d83b9c800425fe72134e1dae098a151f1b445d8bb237e40", func := "loop.example/g01237/laws.FnExactMergeDesigns", spec := "fnExactMergeDesigns", unfollowed := true, recurses := true, apart := false }
def FnExactMergeDesignsSaid : Prop := fnExactMergeDesignsRow.holds Try.pinned (OpenSpec.ofChange fnExactMergeDesignsSpec)

/-- ITS FALSE NEIGHBOUR: 'it returns false'. Refute it at one input. -/
def fnExactMergeDesignsWrong : ChangeSpec := { name := "fnExactMergeDesigns", fn := fun _ => fun
  | [d1, d2] => { results := [.lit (.bool false)], args := [d1, d2] }
  | _ => none }
def FnExactMergeDesignsWrongFalsely : Prop := fnExactMergeDesignsRow.holds Try.pinned (OpenSpec.ofChange fnExactMergeDesignsWrong)

/-- 'laws.FnExactScaleColumn': WHATEVER THE INPUT: true; the input reads as it did. -/
def fnExactScaleColumnSpec : ChangeSpec := { name := "fnExactScaleColumn", fn := fun _ => fun
  | [d1, d2, d3] => { results := [.lit (.bool true)], args := [d1, d2, d3] }
  | _ => none }
def fnExactScaleColumnRow : OpenClaim := { program := "ytfignpiphihgfaa", sum := "78be015121ab7a773d83b9c800425fe72134e1dae098a151f1b445d8bb237e40", func := "loop.example/g01237/laws.FnExactScaleColumn", spec := "fnExactScaleColumn", unfollowed := true, recurses := true, apart := false }
def FnExactScaleColumnSaid : Prop := fnExactScaleColumnRow.holds Try.pinned (OpenSpec.ofChange fnExactScaleColumnSpec)

/-- ITS FALSE NEIGHBOUR: 'it returns false'. Refute it at one input. -/
def fnExactScaleColumnWrong : ChangeSpec := { name := "fnExactScaleColumn", fn := fun _ => fun
  | [d1, d2, d3] => { results := [.lit (.bool false)], args := [d1, d2, d3] }
  | _ => none }
def FnExactScaleColumnWrongFalsely : Prop := fnExactScaleColumnRow.holds Try.pinned (OpenSpec.ofChange fnExactScaleColumnWrong)

/-- 'laws.FnExactSquareOf': WHATEVER THE INPUT: true; the input reads as it did. -/
def fnExactSquareOfSpec : ChangeSpec := { name := "fnExactSquareOf", fn := fun _ => fun
  | [d1, d2] => { results := [.lit (.bool true)], args := [d1, d2] }
  | _ => none }
def fnExactSquareOfRow : OpenClaim := { program := "ytfignpiphihgfaa", sum := "78be015121ab7a773d83b9c800425fe72134e1dae098a151f1b445d8bb237e40", func := "loop.example/g01237/laws.FnExactSquareOf", spec := "fnExactSquareOf", unfollowed := true, recurses := true, apart := false }
def FnExactSquareOfSaid : Prop := fnExactSquareOfRow.holds Try.pinned (OpenSpec.ofChange fnExactSquareOfSpec)

/-- ITS FALSE NEIGHBOUR: 'it returns false'. Refute it at one input. -/
def fnExactSquareOfWrong : ChangeSpec := { name := "fnExactSquareOf", fn := fun _ => fun
  | [d1, d2] => { results := [.lit (.bool false)], args := [d1, d2] }
  | _ => none }
def FnExactSquareOfWrongFalsely : Prop := fnExactSquareOfRow.holds Try.pinned (OpenSpec.ofChange fnExactSquareOfWrong)

/-- 'laws.FnRowsTold': WHATEVER THE INPUT: true; the input reads as it did. -/
def fnRowsToldSpec : ChangeSpec := { name := "fnRowsTold", fn := fun _ => fun
  | [d1, d2] => { results := [.lit (.bool true)], args := [d1, d2] }
  | _ => none }
def fnRowsToldRow : OpenClaim := { program := "ytfignpiphihgfaa", sum := "78be015121ab7a773d83b9c800425fe72134e1dae098a151f1b445d8bb237e40", func := "loop.example/g01237/laws.FnRowsTold", spec := "fnRowsTold", inPlace := ["math.Float64bits"], unfollowed := true, recurses := true, apart := false }
def FnRowsToldSaid : Prop := fnRowsToldRow.holds Try.pinned (OpenSpec.ofChange fnRowsToldSpec)

/-- ITS FALSE NEIGHBOUR: 'it returns false'. Refute it at one input. -/
def fnRowsToldWrong : ChangeSpec := { name := "fnRowsTold", fn := fun _ => fun
  | [d1, d2] => { results := [.lit (.bool false)], args := [d1, d2] }
  | _ => none }
def FnRowsToldWrongFalsely : Prop := fnRowsToldRow.holds Try.pinned (OpenSpec.ofChange fnRowsToldWrong)

/-- 'laws.FnMeshes': WHATEVER THE INPUT: true; the input reads as it did. -/
def fnMeshesSpec : ChangeSpec := { name := "fnMeshes", fn := fun _ => fun
  | [d1, d2] => { results := [.lit (.bool true)], args := [d1, d2] }
  | _ => none }
def fnMeshesRow : OpenClaim := { program := "ytfignpiphihgfaa", sum := "78be015121ab7a773d83b9c800425fe72134e1dae098a151f1b445d8bb237e40", func := "loop.example/g01237/laws.FnMeshes", spec := "fnMeshes", inPlace := ["math.archFloor", "math.Float64bits", "math.Float64frombits", "math.archTrunc", "math.sqrt"], unfollowed := true, recurses := true, apart := false }
def FnMeshesSaid : Prop := fnMeshesRow.holds Try.pinned (OpenSpec.ofChange fnMeshesSpec)

/-- ITS FALSE NEIGHBOUR: 'it returns false'. Refute it at one input. -/
def fnMeshesWrong : ChangeSpec := { name := "fnMeshes", fn := fun _ => fun
  | [d1, d2] => { results := [.lit (.bool false)], args := [d1, d2] }
  | _ => none }
def FnMeshesWrongFalsely : Prop := fnMeshesRow.holds Try.pinned (OpenSpec.ofChange fnMeshesWrong)

/- THE SECOND FORM. 'bulk': how many values and letters a reading holds, each counted each time it is reached (what is shared counts as often as it is met; a slice's spare places count too). A statement '..UptoSaid' is the law's where the arguments, and the package variables that the reading takes, are together of bulk at most 1048576: NARROWER than '..Said'. Prove '..Said' where nothing that the law and all that it calls make is longer than what came in: it says more and counts as full. Else prove '..UptoSaid'. A law counts once. -/
mutual
def uptoBulk {H : Type} : DataW H → Nat
  | .lit (.string bytes) => bytes.length + 1
  | .lit _ => 1
  | .nil => 1
  | .ptr d => uptoBulk d + 1
  | .slice elems spare => uptoBulkAll elems + uptoBulkAll spare + 1
  | .agg parts => uptoBulkAll parts + 1
  | .iface _ d => uptoBulk d + 1
  | .map entries => uptoBulkEntries entries + 1
  | .held _ => 1
def uptoBulkAll {H : Type} : List (DataW H) → Nat
  | [] => 0
  | d :: r => uptoBulk d + uptoBulkAll r
def uptoBulkEntries {H : Type} : List (Lit × DataW H) → Nat
  | [] => 0
  | x :: r => uptoBulkEntry x + uptoBulkEntries r
def uptoBulkEntry {H : Type} : Lit × DataW H → Nat
  | (.string bytes, d) => bytes.length + uptoBulk d + 1
  | (_, d) => uptoBulk d + 1
 end
def uptoSmall : (H : Type) → List (DataW H) → Bool := fun _ ds => decide (uptoBulkAll ds ≤ 1048576)
def OpenSpec.upto (s : _root_.Go.ChangeSpec) : _root_.Go.OpenSpec := { _root_.Go.OpenSpec.ofChange s with cond := some uptoSmall }

/-- 'laws.FnExactFillMesh', WHERE WHAT IT READS IS OF BULK AT MOST 1048576: true; the input reads as it did. -/
def fnExactFillMeshUptoRow : OpenClaim := { program := "ytfignpiphihgfaa", sum := "78be015121ab7a773d83b9c800425fe72134e1dae098a151f1b445d8bb237e40", func := "loop.example/g01237/laws.FnExactFillMesh", spec := "fnExactFillMesh", inPlace := ["math.sqrt"], unfollowed := true, recurses := true, apart := false, narrowed := true }
def FnExactFillMeshUptoSaid : Prop := fnExactFillMeshUptoRow.holds Try.pinned (OpenSpec.upto fnExactFillMeshSpec)

/-- 'laws.FnExactMergeDesigns', WHERE WHAT IT READS IS OF BULK AT MOST 1048576: true; the input reads as it did. -/
def fnExactMergeDesignsUptoRow : OpenClaim := { program := "ytfignpiphihgfaa", sum := "78be015121ab7a773d83b9c800425fe72134e1dae098a151f1b445d8bb237e40", func := "loop.example/g01237/laws.FnExactMergeDesigns", spec := "fnExactMergeDesigns", unfollowed := true, recurses := true, apart := false, narrowed := true }
def FnExactMergeDesignsUptoSaid : Prop := fnExactMergeDesignsUptoRow.holds Try.pinned (OpenSpec.upto fnExactMergeDesignsSpec)

/-- 'laws.FnExactScaleColumn', WHERE WHAT IT READS IS OF BULK AT MOST 1048576: true; the input reads as it did. -/
def fnExactScaleColumnUptoRow : OpenClaim := { program := "ytfignpiphihgfaa", sum := "78be015121ab7a773d83b9c800425fe72134e1dae098a151f1b445d8bb237e40", func := "loop.example/g01237/laws.FnExactScaleColumn", spec := "fnExactScaleColumn", unfollowed := true, recurses := true, apart := false, narrowed := true }
def FnExactScaleColumnUptoSaid : Prop := fnExactScaleColumnUptoRow.holds Try.pinned (OpenSpec.upto fnExactScaleColumnSpec)

/-- 'laws.FnExactSquareOf', WHERE WHAT IT READS IS OF BULK AT MOST 1048576: true; the input reads as it did. -/
def fnExactSquareOfUptoRow : OpenClaim := { program := "ytfignpiphihgfaa", sum := "78be015121ab7a773d83b9c800425fe72134e1dae098a151f1b445d8bb237e40", func := "loop.example/g01237/laws.FnExactSquareOf", spec := "fnExactSquareOf", unfollowed := true, recurses := true, apart := false, narrowed := true }
def FnExactSquareOfUptoSaid : Prop := fnExactSquareOfUptoRow.holds Try.pinned (OpenSpec.upto fnExactSquareOfSpec)

/-- 'laws.FnRowsTold', WHERE WHAT IT READS IS OF BULK AT MOST 1048576: true; the input reads as it did. -/
def fnRowsToldUptoRow : OpenClaim := { program := "ytfignpiphihgfaa", sum := "78be015121ab7a773d83b9c800425fe72134e1dae098a151f1b445d8bb237e40", func := "loop.example/g01237/laws.FnRowsTold", spec := "fnRowsTold", inPlace := ["math.Float64bits"], unfollowed := true, recurses := true, apart := false, narrowed := true }
def FnRowsToldUptoSaid : Prop := fnRowsToldUptoRow.holds Try.pinned (OpenSpec.upto fnRowsToldSpec)

/-- 'laws.FnMeshes', WHERE WHAT IT READS IS OF BULK AT MOST 1048576: true; the input reads as it did. -/
def fnMeshesUptoRow : OpenClaim := { program := "ytfignpiphihgfaa", sum := "78be015121ab7a773d83b9c800425fe72134e1dae098a151f1b445d8bb237e40", func := "loop.example/g01237/laws.FnMeshes", spec := "fnMeshes", inPlace := ["math.archFloor", "math.Float64bits", "math.Float64frombits", "math.archTrunc", "math.sqrt"], unfollowed := true, recurses := true, apart := false, narrowed := true }
def FnMeshesUptoSaid : Prop := fnMeshesUptoRow.holds Try.pinned (OpenSpec.upto fnMeshesSpec)

end Rows
end Go.Proofs.Ytfignpiphihgfaa
