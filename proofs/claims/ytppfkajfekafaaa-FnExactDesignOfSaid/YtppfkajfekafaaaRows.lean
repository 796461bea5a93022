/-
  No cell of these rows narrows 'for every input' (looked for: loops, veiled, ifaces, maps, wideKeys, modest, calm, conditions, laid).
  DERIVED. THE GIVEN ROWS OF THIS SEAT. 11 by the template 'for every input the law returns true; each argument reads behind the call as it read before'; 0 by the template 'total and deterministic' (their statements: YtppfkajfekafaaaTotals.lean).
  GIVEN WITH THE SEED: the statements are not yours to turn. If you find one false, say at which input.
  Laid BY PROGRAM, IN A SANDBOX (cutbox-rows.mjs): the forced cells as the released guide's own fill.sh prints them over the translation fa8fe72eb7f575eb… (all of the seat's roots in one cut). By AI agents, Wed Nov 11 2026. No macro, syntax, notation, axiom, sorry.
-/
import Derived.Test.YtppfkajfekafaaaChecked
import GoSem.Claim
import GoSem.ClaimJoined
import GoSem.ClaimMapViews
import Derived.JoinedTies
import Derived.KernelRfl
namespace Go.Proofs.Ytppfkajfekafaaa
/- THE CELL 'sum', in the pinned program and in every row, IS THE sha256 OF THE DUMP (.gsa) THAT YtppfkajfekafaaaProg.lean LOADS. Nothing in Lean hashes anything: it is a label: what it is worth is what the hold of that sum in a sandbox is worth. -/
noncomputable def Try.pinned : Pinned := { name := "ytppfkajfekafaaa", sum := "fa8fe72eb7f575ebadcc20cdddbea3116d036d4e3bce6fc3b95dbf08ecd716fa", checked := Try.checked }
namespace Rows
def none {H : Type} : Left H := { results := [], args := [] }

/-- 'laws.FnExactNewDesk': WHATEVER THE INPUT: true; the input reads as it did. -/
def fnExactNewDeskSpec : ChangeSpec := { name := "fnExactNewDesk", fn := fun _ => fun
  | [] => { results := [.lit (.bool true)], args := [] }
  | _ => none }
def fnExactNewDeskRow : OpenClaim := { program := "ytppfkajfekafaaa", sum := "fa8fe72eb7f575ebadcc20cdddbea3116d036d4e3bce6fc3b95dbf08ecd716fa", func := "loop.example/g01237/laws.FnExactNewDesk", spec := "fnExactNewDesk", apart := false }
def FnExactNewDeskSaid : Prop := fnExactNewDeskRow.holds Try.pinned (OpenSpec.ofChange fnExactNewDeskSpec)

/-- ITS FALSE NEIGHBOUR: 'it returns false'. Refute it at one input. -/
def fnExactNewDeskWrong : ChangeSpec := { name := "fnExactNewDesk", fn := fun _ => fun
  | [] => { results := [.lit (.bool false)], args := [] }
  | _ => none }
def FnExactNewDeskWrongFalsely : Prop := fnExactNewDeskRow.holds Try.pinned (OpenSpec.ofChange fnExactNewDeskWrong)

/-- 'laws.FnExactValidDesk': WHATEVER THE INPUT: true; the input reads as it did. -/
def fnExactValidDeskSpec : ChangeSpec := { name := "fnExactValidDesk", fn := fun _ => fun
  | [d] => { results := [.lit (.bool true)], args := [d] }
  | _ => none }
def fnExactValidDeskRow : OpenClaim := { program := "ytppfkajfekafaaa", sum := "fa8fe72eb7f575ebadcc20cdddbea3116d036d4e3bce6fc3b95dbf08ecd716fa", func := "loop.example/g01237/laws.FnExactValidDesk", spec := "fnExactValidDesk", unfollowed := true, recurses := true, apart := false }
def FnExactValidDeskSaid : Prop := fnExactValidDeskRow.holds Try.pinned (OpenSpec.ofChange fnExactValidDeskSpec)

/-- ITS FALSE NEIGHBOUR: 'it returns false'. Refute it at one input. -/
def fnExactValidDeskWrong : ChangeSpec := { name := "fnExactValidDesk", fn := fun _ => fun
  | [d] => { results := [.lit (.bool false)], args := [d] }
  | _ => none }
def FnExactValidDeskWrongFalsely : Prop := fnExactValidDeskRow.holds Try.pinned (OpenSpec.ofChange fnExactValidDeskWrong)

/-- 'laws.FnExactFlatnessOf': WHATEVER THE INPUT: true; the input reads as it did. -/
def fnExactFlatnessOfSpec : ChangeSpec := { name := "fnExactFlatnessOf", fn := fun _ => fun
  | [d1, d2, d3] => { results := [.lit (.bool true)], args := [d1, d2, d3] }
  | _ => none }
def fnExactFlatnessOfRow : OpenClaim := { program := "ytppfkajfekafaaa", sum := "fa8fe72eb7f575ebadcc20cdddbea3116d036d4e3bce6fc3b95dbf08ecd716fa", func := "loop.example/g01237/laws.FnExactFlatnessOf", spec := "fnExactFlatnessOf", inPlace := ["math.sqrt"], unfollowed := true, recurses := true, apart := false }
def FnExactFlatnessOfSaid : Prop := fnExactFlatnessOfRow.holds Try.pinned (OpenSpec.ofChange fnExactFlatnessOfSpec)

/-- ITS FALSE NEIGHBOUR: 'it returns false'. Refute it at one input. -/
def fnExactFlatnessOfWrong : ChangeSpec := { name := "fnExactFlatnessOf", fn := fun _ => fun
  | [d1, d2, d3] => { results := [.lit (.bool false)], args := [d1, d2, d3] }
  | _ => none }
def FnExactFlatnessOfWrongFalsely : Prop := fnExactFlatnessOfRow.holds Try.pinned (OpenSpec.ofChange fnExactFlatnessOfWrong)

/-- 'laws.FnExactStepLine': WHATEVER THE INPUT: true; the input reads as it did. -/
def fnExactStepLineSpec : ChangeSpec := { name := "fnExactStepLine", fn := fun _ => fun
  | [d1, d2, d3] => { results := [.lit (.bool true)], args := [d1, d2, d3] }
  | _ => none }
def fnExactStepLineRow : OpenClaim := { program := "ytppfkajfekafaaa", sum := "fa8fe72eb7f575ebadcc20cdddbea3116d036d4e3bce6fc3b95dbf08ecd716fa", func := "loop.example/g01237/laws.FnExactStepLine", spec := "fnExactStepLine", inPlace := ["math.archFloor", "math.Float64bits", "math.Float64frombits", "math.archTrunc", "math.sqrt"], unfollowed := true, recurses := true, apart := false }
def FnExactStepLineSaid : Prop := fnExactStepLineRow.holds Try.pinned (OpenSpec.ofChange fnExactStepLineSpec)

/-- ITS FALSE NEIGHBOUR: 'it returns false'. Refute it at one input. -/
def fnExactStepLineWrong : ChangeSpec := { name := "fnExactStepLine", fn := fun _ => fun
  | [d1, d2, d3] => { results := [.lit (.bool false)], args := [d1, d2, d3] }
  | _ => none }
def FnExactStepLineWrongFalsely : Prop := fnExactStepLineRow.holds Try.pinned (OpenSpec.ofChange fnExactStepLineWrong)

/-- 'laws.FnExactFieldLine': WHATEVER THE INPUT: true; the input reads as it did. -/
def fnExactFieldLineSpec : ChangeSpec := { name := "fnExactFieldLine", fn := fun _ => fun
  | [d1, d2, d3, d4] => { results := [.lit (.bool true)], args := [d1, d2, d3, d4] }
  | _ => none }
def fnExactFieldLineRow : OpenClaim := { program := "ytppfkajfekafaaa", sum := "fa8fe72eb7f575ebadcc20cdddbea3116d036d4e3bce6fc3b95dbf08ecd716fa", func := "loop.example/g01237/laws.FnExactFieldLine", spec := "fnExactFieldLine", inPlace := ["math.archFloor", "math.Float64bits", "math.Float64frombits", "math.archTrunc", "math.sqrt"], unfollowed := true, recurses := true, apart := false }
def FnExactFieldLineSaid : Prop := fnExactFieldLineRow.holds Try.pinned (OpenSpec.ofChange fnExactFieldLineSpec)

/-- ITS FALSE NEIGHBOUR: 'it returns false'. Refute it at one input. -/
def fnExactFieldLineWrong : ChangeSpec := { name := "fnExactFieldLine", fn := fun _ => fun
  | [d1, d2, d3, d4] => { results := [.lit (.bool false)], args := [d1, d2, d3, d4] }
  | _ => none }
def FnExactFieldLineWrongFalsely : Prop := fnExactFieldLineRow.holds Try.pinned (OpenSpec.ofChange fnExactFieldLineWrong)

/-- 'laws.FnExactFineStep': WHATEVER THE INPUT: true; the input reads as it did. -/
def fnExactFineStepSpec : ChangeSpec := { name := "fnExactFineStep", fn := fun _ => fun
  | [d1, d2, d3, d4] => { results := [.lit (.bool true)], args := [d1, d2, d3, d4] }
  | _ => none }
def fnExactFineStepRow : OpenClaim := { program := "ytppfkajfekafaaa", sum := "fa8fe72eb7f575ebadcc20cdddbea3116d036d4e3bce6fc3b95dbf08ecd716fa", func := "loop.example/g01237/laws.FnExactFineStep", spec := "fnExactFineStep", inPlace := ["math.archFloor", "math.Float64bits", "math.Float64frombits", "math.archTrunc", "math.sqrt"], unfollowed := true, recurses := true, apart := false }
def FnExactFineStepSaid : Prop := fnExactFineStepRow.holds Try.pinned (OpenSpec.ofChange fnExactFineStepSpec)

/-- ITS FALSE NEIGHBOUR: 'it returns false'. Refute it at one input. -/
def fnExactFineStepWrong : ChangeSpec := { name := "fnExactFineStep", fn := fun _ => fun
  | [d1, d2, d3, d4] => { results := [.lit (.bool false)], args := [d1, d2, d3, d4] }
  | _ => none }
def FnExactFineStepWrongFalsely : Prop := fnExactFineStepRow.holds Try.pinned (OpenSpec.ofChange fnExactFineStepWrong)

/-- 'laws.FnExactFineLine': WHATEVER THE INPUT: true; the input reads as it did. -/
def fnExactFineLineSpec : ChangeSpec := { name := "fnExactFineLine", fn := fun _ => fun
  | [d1, d2, d3, d4, d5] => { results := [.lit (.bool true)], args := [d1, d2, d3, d4, d5] }
  | _ => none }
def fnExactFineLineRow : OpenClaim := { program := "ytppfkajfekafaaa", sum := "fa8fe72eb7f575ebadcc20cdddbea3116d036d4e3bce6fc3b95dbf08ecd716fa", func := "loop.example/g01237/laws.FnExactFineLine", spec := "fnExactFineLine", inPlace := ["math.archFloor", "math.Float64bits", "math.Float64frombits", "math.archTrunc", "math.sqrt"], unfollowed := true, recurses := true, apart := false }
def FnExactFineLineSaid : Prop := fnExactFineLineRow.holds Try.pinned (OpenSpec.ofChange fnExactFineLineSpec)

/-- ITS FALSE NEIGHBOUR: 'it returns false'. Refute it at one input. -/
def fnExactFineLineWrong : ChangeSpec := { name := "fnExactFineLine", fn := fun _ => fun
  | [d1, d2, d3, d4, d5] => { results := [.lit (.bool false)], args := [d1, d2, d3, d4, d5] }
  | _ => none }
def FnExactFineLineWrongFalsely : Prop := fnExactFineLineRow.holds Try.pinned (OpenSpec.ofChange fnExactFineLineWrong)

/-- 'laws.FnExactDesignOf': WHATEVER THE INPUT: true; the input reads as it did. -/
def fnExactDesignOfSpec : ChangeSpec := { name := "fnExactDesignOf", fn := fun _ => fun
  | [d1, d2, d3, d4] => { results := [.lit (.bool true)], args := [d1, d2, d3, d4] }
  | _ => none }
def fnExactDesignOfRow : OpenClaim := { program := "ytppfkajfekafaaa", sum := "fa8fe72eb7f575ebadcc20cdddbea3116d036d4e3bce6fc3b95dbf08ecd716fa", func := "loop.example/g01237/laws.FnExactDesignOf", spec := "fnExactDesignOf", inPlace := ["math.sqrt"], unfollowed := true, recurses := true, apart := false }
def FnExactDesignOfSaid : Prop := fnExactDesignOfRow.holds Try.pinned (OpenSpec.ofChange fnExactDesignOfSpec)

/-- ITS FALSE NEIGHBOUR: 'it returns false'. Refute it at one input. -/
def fnExactDesignOfWrong : ChangeSpec := { name := "fnExactDesignOf", fn := fun _ => fun
  | [d1, d2, d3, d4] => { results := [.lit (.bool false)], args := [d1, d2, d3, d4] }
  | _ => none }
def FnExactDesignOfWrongFalsely : Prop := fnExactDesignOfRow.holds Try.pinned (OpenSpec.ofChange fnExactDesignOfWrong)

/-- 'laws.FnExactFillMesh': WHATEVER THE INPUT: true; the input reads as it did. -/
def fnExactFillMeshSpec : ChangeSpec := { name := "fnExactFillMesh", fn := fun _ => fun
  | [d1, d2, d3, d4, d5, d6] => { results := [.lit (.bool true)], args := [d1, d2, d3, d4, d5, d6] }
  | _ => none }
def fnExactFillMeshRow : OpenClaim := { program := "ytppfkajfekafaaa", sum := "fa8fe72eb7f575ebadcc20cdddbea3116d036d4e3bce6fc3b95dbf08ecd716fa", func := "loop.example/g01237/laws.FnExactFillMesh", spec := "fnExactFillMesh", inPlace := ["math.sqrt"], unfollowed := true, recurses := true, apart := false }
def FnExactFillMeshSaid : Prop := fnExactFillMeshRow.holds Try.pinned (OpenSpec.ofChange fnExactFillMeshSpec)

/-- ITS FALSE NEIGHBOUR: 'it returns false'. Refute it at one input. -/
def fnExactFillMeshWrong : ChangeSpec := { name := "fnExactFillMesh", fn := fun _ => fun
  | [d1, d2, d3, d4, d5, d6] => { results := [.lit (.bool false)], args := [d1, d2, d3, d4, d5, d6] }
  | _ => none }
def FnExactFillMeshWrongFalsely : Prop := fnExactFillMeshRow.holds Try.pinned (OpenSpec.ofChange fnExactFillMeshWrong)

/-- 'laws.FnExactWorstBetween': WHATEVER THE INPUT: true; the input reads as it did. -/
def fnExactWorstBetweenSpec : ChangeSpec := { name := "fnExactWorstBetween", fn := fun _ => fun
  | [d1, d2] => { results := [.lit (.bool true)], args := [d1, d2] }
  | _ => none }
def fnExactWorstBetweenRow : OpenClaim := { program := "ytppfkajfekafaaa", sum := "fa8fe72eb7f575ebadcc20cdddbea3116d036d4e3bce6fc3b95dbf08ecd716fa", func := "loop.example/g01237/laws.FnExactWorstBetween", spec := "fnExactWorstBetween", inPlace := ["math.archFloor", "math.Float64bits", "math.Float64frombits", "math.archTrunc", "math.sqrt"], unfollowed := true, recurses := true, apart := false }
def FnExactWorstBetweenSaid : Prop := fnExactWorstBetweenRow.holds Try.pinned (OpenSpec.ofChange fnExactWorstBetweenSpec)

/-- ITS FALSE NEIGHBOUR: 'it returns false'. Refute it at one input. -/
def fnExactWorstBetweenWrong : ChangeSpec := { name := "fnExactWorstBetween", fn := fun _ => fun
  | [d1, d2] => { results := [.lit (.bool false)], args := [d1, d2] }
  | _ => none }
def FnExactWorstBetweenWrongFalsely : Prop := fnExactWorstBetweenRow.holds Try.pinned (OpenSpec.ofChange fnExactWorstBetweenWrong)

/-- 'laws.FnExactFieldAtDesk': WHATEVER THE INPUT: true; the input reads as it did. -/
def fnExactFieldAtDeskSpec : ChangeSpec := { name := "fnExactFieldAtDesk", fn := fun _ => fun
  | [d1, d2] => { results := [.lit (.bool true)], args := [d1, d2] }
  | _ => none }
def fnExactFieldAtDeskRow : OpenClaim := { program := "ytppfkajfekafaaa", sum := "fa8fe72eb7f575ebadcc20cdddbea3116d036d4e3bce6fc3b95dbf08ecd716fa", func := "loop.example/g01237/laws.FnExactFieldAtDesk", spec := "fnExactFieldAtDesk", inPlace := ["math.sqrt"], unfollowed := true, recurses := true, apart := false }
def FnExactFieldAtDeskSaid : Prop := fnExactFieldAtDeskRow.holds Try.pinned (OpenSpec.ofChange fnExactFieldAtDeskSpec)

/-- ITS FALSE NEIGHBOUR: 'it returns false'. Refute it at one input. -/
def fnExactFieldAtDeskWrong : ChangeSpec := { name := "fnExactFieldAtDesk", fn := fun _ => fun
  | [d1, d2] => { results := [.lit (.bool false)], args := [d1, d2] }
  | _ => none }
def FnExactFieldAtDeskWrongFalsely : Prop := fnExactFieldAtDeskRow.holds Try.pinned (OpenSpec.ofChange fnExactFieldAtDeskWrong)

/- THE SECOND FORM. 'bulk': how many values and letters a reading holds, each counted each time it is reached (what is shared counts as often as it is met; a slice's spare places count too). A statement '..UptoSaid' is the law's where the arguments, and the package variables that the reading takes, are together of bulk at most 1048576: NARROWER than '..Said'. Prove '..Said' where nothing that the law and all that it calls make is longer than what came in: it says more and counts as full. Else prove '..UptoSaid'. A law counts once. -/
mutual
def uptoBulk {H : Type} : DataW H → Nat
  | .lit (.string bytes) => bytes.length + 1
  | .lit _ => 1
  | .nil => 1
  | .ptr d => uptoBulk d + 1
  | .slice elems spare => uptoBulkAll elems + uptoBulkAll spare + 1
  | .agg parts => uptoBulkAll parts + 1
  | .iface _ d => uptoBulk d + 1
  | .map entries => uptoBulkEntries entries + 1
  | .held _ => 1
def uptoBulkAll {H : Type} : List (DataW H) → Nat
  | [] => 0
  | d :: r => uptoBulk d + uptoBulkAll r
def uptoBulkEntries {H : Type} : List (Lit × DataW H) → Nat
  | [] => 0
  | x :: r => uptoBulkEntry x + uptoBulkEntries r
def uptoBulkEntry {H : Type} : Lit × DataW H → Nat
  | (.string bytes, d) => bytes.length + uptoBulk d + 1
  | (_, d) => uptoBulk d + 1
 end
def uptoSmall : (H : Type) → List (DataW H) → Bool := fun _ ds => decide (uptoBulkAll ds ≤ 1048576)
def OpenSpec.upto (s : _root_.Go.ChangeSpec) : _root_.Go.OpenSpec := { _root_.Go.OpenSpec.ofChange s with cond := some uptoSmall }

/-- 'laws.FnExactNewDesk', WHERE WHAT IT READS IS OF BULK AT MOST 1048576: true; the input reads as it did. -/
def fnExactNewDeskUptoRow : OpenClaim := { program := "ytppfkajfekafaaa", sum := "fa8fe72eb7f575ebadcc20cdddbea3116d036d4e3bce6fc3b95dbf08ecd716fa", func := "loop.example/g01237/laws.FnExactNewDesk", spec := "fnExactNewDesk", apart := false, narrowed := true }
def FnExactNewDeskUptoSaid : Prop := fnExactNewDeskUptoRow.holds Try.pinned (OpenSpec.upto fnExactNewDeskSpec)

/-- 'laws.FnExactValidDesk', WHERE WHAT IT READS IS OF BULK AT MOST 1048576: true; the input reads as it did. -/
def fnExactValidDeskUptoRow : OpenClaim := { program := "ytppfkajfekafaaa", sum := "fa8fe72eb7f575ebadcc20cdddbea3116d036d4e3bce6fc3b95dbf08ecd716fa", func := "loop.example/g01237/laws.FnExactValidDesk", spec := "fnExactValidDesk", unfollowed := true, recurses := true, apart := false, narrowed := true }
def FnExactValidDeskUptoSaid : Prop := fnExactValidDeskUptoRow.holds Try.pinned (OpenSpec.upto fnExactValidDeskSpec)

/-- 'laws.FnExactFlatnessOf', WHERE WHAT IT READS IS OF BULK AT MOST 1048576: true; the input reads as it did. -/
def fnExactFlatnessOfUptoRow : OpenClaim := { program := "ytppfkajfekafaaa", sum := "fa8fe72eb7f575ebadcc20cdddbea3116d036d4e3bce6fc3b95dbf08ecd716fa", func := "loop.example/g01237/laws.FnExactFlatnessOf", spec := "fnExactFlatnessOf", inPlace := ["math.sqrt"], unfollowed := true, recurses := true, apart := false, narrowed := true }
def FnExactFlatnessOfUptoSaid : Prop := fnExactFlatnessOfUptoRow.holds Try.pinned (OpenSpec.upto fnExactFlatnessOfSpec)

/-- 'laws.FnExactStepLine', WHERE WHAT IT READS IS OF BULK AT MOST 1048576: true; the input reads as it did. -/
def fnExactStepLineUptoRow : OpenClaim := { program := "ytppfkajfekafaaa", sum := "fa8fe72eb7f575ebadcc20cdddbea3116d036d4e3bce6fc3b95dbf08ecd716fa", func := "loop.example/g01237/laws.FnExactStepLine", spec := "fnExactStepLine", inPlace := ["math.archFloor", "math.Float64bits", "math.Float64frombits", "math.archTrunc", "math.sqrt"], unfollowed := true, recurses := true, apart := false, narrowed := true }
def FnExactStepLineUptoSaid : Prop := fnExactStepLineUptoRow.holds Try.pinned (OpenSpec.upto fnExactStepLineSpec)

/-- 'laws.FnExactFieldLine', WHERE WHAT IT READS IS OF BULK AT MOST 1048576: true; the input reads as it did. -/
def fnExactFieldLineUptoRow : OpenClaim := { program := "ytppfkajfekafaaa", sum := "fa8fe72eb7f575ebadcc20cdddbea3116d036d4e3bce6fc3b95dbf08ecd716fa", func := "loop.example/g01237/laws.FnExactFieldLine", spec := "fnExactFieldLine", inPlace := ["math.archFloor", "math.Float64bits", "math.Float64frombits", "math.archTrunc", "math.sqrt"], unfollowed := true, recurses := true, apart := false, narrowed := true }
def FnExactFieldLineUptoSaid : Prop := fnExactFieldLineUptoRow.holds Try.pinned (OpenSpec.upto fnExactFieldLineSpec)

/-- 'laws.FnExactFineStep', WHERE WHAT IT READS IS OF BULK AT MOST 1048576: true; the input reads as it did. -/
def fnExactFineStepUptoRow : OpenClaim := { program := "ytppfkajfekafaaa", sum := "fa8fe72eb7f575ebadcc20cdddbea3116d036d4e3bce6fc3b95dbf08ecd716fa", func := "loop.example/g01237/laws.FnExactFineStep", spec := "fnExactFineStep", inPlace := ["math.archFloor", "math.Float64bits", "math.Float64frombits", "math.archTrunc", "math.sqrt"], unfollowed := true, recurses := true, apart := false, narrowed := true }
def FnExactFineStepUptoSaid : Prop := fnExactFineStepUptoRow.holds Try.pinned (OpenSpec.upto fnExactFineStepSpec)

/-- 'laws.FnExactFineLine', WHERE WHAT IT READS IS OF BULK AT MOST 1048576: true; the input reads as it did. -/
def fnExactFineLineUptoRow : OpenClaim := { program := "ytppfkajfekafaaa", sum := "fa8fe72eb7f575ebadcc20cdddbea3116d036d4e3bce6fc3b95dbf08ecd716fa", func := "loop.example/g01237/laws.FnExactFineLine", spec := "fnExactFineLine", inPlace := ["math.archFloor", "math.Float64bits", "math.Float64frombits", "math.archTrunc", "math.sqrt"], unfollowed := true, recurses := true, apart := false, narrowed := true }
def FnExactFineLineUptoSaid : Prop := fnExactFineLineUptoRow.holds Try.pinned (OpenSpec.upto fnExactFineLineSpec)

/-- 'laws.FnExactDesignOf', WHERE WHAT IT READS IS OF BULK AT MOST 1048576: true; the input reads as it did. -/
def fnExactDesignOfUptoRow : OpenClaim := { program := "ytppfkajfekafaaa", sum := "fa8fe72eb7f575ebadcc20cdddbea3116d036d4e3bce6fc3b95dbf08ecd716fa", func := "loop.example/g01237/laws.FnExactDesignOf", spec := "fnExactDesignOf", inPlace := ["math.sqrt"], unfollowed := true, recurses := true, apart := false, narrowed := true }
def FnExactDesignOfUptoSaid : Prop := fnExactDesignOfUptoRow.holds Try.pinned (OpenSpec.upto fnExactDesignOfSpec)

/-- 'laws.FnExactFillMesh', WHERE WHAT IT READS IS OF BULK AT MOST 1048576: true; the input reads as it did. -/
def fnExactFillMeshUptoRow : OpenClaim := { program := "ytppfkajfekafaaa", sum := "fa8fe72eb7f575ebadcc20cdddbea3116d036d4e3bce6fc3b95dbf08ecd716fa", func := "loop.example/g01237/laws.FnExactFillMesh", spec := "fnExactFillMesh", inPlace := ["math.sqrt"], unfollowed := true, recurses := true, apart := false, narrowed := true }
def FnExactFillMeshUptoSaid : Prop := fnExactFillMeshUptoRow.holds Try.pinned (OpenSpec.upto fnExactFillMeshSpec)

/-- 'laws.FnExactWorstBetween', WHERE WHAT IT READS IS OF BULK AT MOST 1048576: true; the input reads as it did. -/
def fnExactWorstBetweenUptoRow : OpenClaim := { program := "ytppfkajfekafaaa", sum := "fa8fe72eb7f575ebadcc20cdddbea3116d036d4e3bce6fc3b95dbf08ecd716fa", func := "loop.example/g01237/laws.FnExactWorstBetween", spec := "fnExactWorstBetween", inPlace := ["math.archFloor", "math.Float64bits", "math.Float64frombits", "math.archTrunc", "math.sqrt"], unfollowed := true, recurses := true, apart := false, narrowed := true }
def FnExactWorstBetweenUptoSaid : Prop := fnExactWorstBetweenUptoRow.holds Try.pinned (OpenSpec.upto fnExactWorstBetweenSpec)

/-- 'laws.FnExactFieldAtDesk', WHERE WHAT IT READS IS OF BULK AT MOST 1048576: true; the input reads as it did. -/
def fnExactFieldAtDeskUptoRow : OpenClaim := { program := "ytppfkajfekafaaa", sum := "fa8fe72eb7f575ebadcc20cdddbea3116d036d4e3bce6fc3b95dbf08ecd716fa", func := "loop.example/g01237/laws.FnExactFieldAtDesk", spec := "fnExactFieldAtDesk", inPlace := ["math.sqrt"], unfollowed := true, recurses := true, apart := false, narrowed := true }
def FnExactFieldAtDeskUptoSaid : Prop := fnExactFieldAtDeskUptoRow.holds Try.pinned (OpenSpec.upto fnExactFieldAtDeskSpec)

end Rows
end Go.Proofs.Ytppfkajfekafaaa
