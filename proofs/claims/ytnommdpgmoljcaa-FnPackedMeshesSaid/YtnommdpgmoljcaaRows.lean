/-
  No cell of these rows narrows 'for every input' (looked for: loops, veiled, ifaces, maps, wideKeys, modest, calm, conditions, laid).
  DERIVED. THE GIVEN ROWS OF THIS SEAT. 5 by the template 'for every input the law returns true; each argument reads behind the call as it read before'; 0 by the template 'total and deterministic' (their statements: YtnommdpgmoljcaaTotals.lean).
  GIVEN WITH THE SEED: the statements are not yours to turn. If you find one false, say at which input.
  Laid BY PROGRAM, IN A SANDBOX (cutbox-rows.mjs): the forced cells as the released guide's own fill.sh prints them over the translation 0a460269ae7a66df… (all of the seat's roots in one cut). By AI agents, Wed Nov 11 2026. No macro, syntax, notation, axiom, sorry.
-/
import Derived.Test.YtnommdpgmoljcaaChecked
import GoSem.Claim
import GoSem.ClaimJoined
import GoSem.ClaimMapViews
import Derived.JoinedTies
import Derived.KernelRfl
namespace Go.Proofs.Ytnommdpgmoljcaa
/- THE CELL 'sum', in the pinned program and in every row, IS THE sha256 OF THE DUMP (.gsa) THAT YtnommdpgmoljcaaProg.lean LOADS. Nothing in Lean hashes anything: it is a label: what it is worth is what the hold of that sum in a sandbox is worth. -/
noncomputable def Try.pinned : Pinned := { name := "ytnommdpgmoljcaa", sum := "0a460269ae7a66df3e24286c177896461c652ed163e870538687258bd3099440", checked := Try.checked }
namespace Rows
def none {H : Type} : Left H := { results := [], args := [] }

/-- 'laws.FnExactFillMesh': WHATEVER THE INPUT: true; the input reads as it did. -/
def fnExactFillMeshSpec : ChangeSpec := { name := "fnExactFillMesh", fn := fun _ => fun
  | [d1, d2, d3, d4, d5, d6] => { results := [.lit (.bool true)], args := [d1, d2, d3, d4, d5, d6] }
  | _ => none }
def fnExactFillMeshRow : OpenClaim := { program := "ytnommdpgmoljcaa", sum := "0a460269ae7a66df3e24286c177896461c652ed163e870538687258bd3099440", func := "loop.example/g01237/laws.FnExactFillMesh", spec := "fnExactFillMesh", inPlace := ["math.sqrt"], unfollowed := true, recurses := true, apart := false }
def FnExactFillMeshSaid : Prop := fnExactFillMeshRow.holds Try.pinned (OpenSpec.ofChange fnExactFillMeshSpec)

/-- ITS FALSE NEIGHBOUR: 'it returns false'. Refute it at one input. -/
def fnExactFillMeshWrong : ChangeSpec := { name := "fnExactFillMesh", fn := fun _ => fun
  | [d1, d2, d3, d4, d5, d6] => { results := [.lit (.bool false)], args := [d1, d2, d3, d4, d5, d6] }
  | _ => none }
def FnExactFillMeshWrongFalsely : Prop := fnExactFillMeshRow.holds Try.pinned (OpenSpec.ofChange fnExactFillMeshWrong)

/-- 'laws.FnExactUnpackMesh': WHATEVER THE INPUT: true; the input reads as it did. -/
def fnExactUnpackMeshSpec : ChangeSpec := { name := "fnExactUnpackMesh", fn := fun _ => fun
  | [d] => { results := [.lit (.bool true)], args := [d] }
  | _ => none }
def fnExactUnpackMeshRow : OpenClaim := { program := "ytnommdpgmoljcaa", sum := "0a460269ae7a66df3e24286c177896461c652ed163e870538687258bd3099440", func := "loop.example/g01237/laws.FnExactUnpackMesh", spec := "fnExactUnpackMesh", inPlace := ["math.Float32frombits", "math.Float32bits", "math.RoundToEven", "math.Float64bits", "math.Float64frombits"], unfollowed := true, recurses := true, apart := false }
def FnExactUnpackMeshSaid : Prop := fnExactUnpackMeshRow.holds Try.pinned (OpenSpec.ofChange fnExactUnpackMeshSpec)

/-- ITS FALSE NEIGHBOUR: 'it returns false'. Refute it at one input. -/
def fnExactUnpackMeshWrong : ChangeSpec := { name := "fnExactUnpackMesh", fn := fun _ => fun
  | [d] => { results := [.lit (.bool false)], args := [d] }
  | _ => none }
def FnExactUnpackMeshWrongFalsely : Prop := fnExactUnpackMeshRow.holds Try.pinned (OpenSpec.ofChange fnExactUnpackMeshWrong)

/-- 'laws.FnExactRoundMesh': WHATEVER THE INPUT: true; the input reads as it did. -/
def fnExactRoundMeshSpec : ChangeSpec := { name := "fnExactRoundMesh", fn := fun _ => fun
  | [d] => { results := [.lit (.bool true)], args := [d] }
  | _ => none }
def fnExactRoundMeshRow : OpenClaim := { program := "ytnommdpgmoljcaa", sum := "0a460269ae7a66df3e24286c177896461c652ed163e870538687258bd3099440", func := "loop.example/g01237/laws.FnExactRoundMesh", spec := "fnExactRoundMesh", inPlace := ["math.Float32bits", "math.RoundToEven", "math.Float32frombits", "math.Float64bits", "math.Float64frombits"], unfollowed := true, recurses := true, apart := false }
def FnExactRoundMeshSaid : Prop := fnExactRoundMeshRow.holds Try.pinned (OpenSpec.ofChange fnExactRoundMeshSpec)

/-- ITS FALSE NEIGHBOUR: 'it returns false'. Refute it at one input. -/
def fnExactRoundMeshWrong : ChangeSpec := { name := "fnExactRoundMesh", fn := fun _ => fun
  | [d] => { results := [.lit (.bool false)], args := [d] }
  | _ => none }
def FnExactRoundMeshWrongFalsely : Prop := fnExactRoundMeshRow.holds Try.pinned (OpenSpec.ofChange fnExactRoundMeshWrong)

/-- 'laws.FnPackedMeshes': WHATEVER THE INPUT: true; the input reads as it did. -/
def fnPackedMeshesSpec : ChangeSpec := { name := "fnPackedMeshes", fn := fun _ => fun
  | [d1, d2] => { results := [.lit (.bool true)], args := [d1, d2] }
  | _ => none }
def fnPackedMeshesRow : OpenClaim := { program := "ytnommdpgmoljcaa", sum := "0a460269ae7a66df3e24286c177896461c652ed163e870538687258bd3099440", func := "loop.example/g01237/laws.FnPackedMeshes", spec := "fnPackedMeshes", inPlace := ["math.Float64bits", "math.Float64frombits", "math.Float32bits", "math.RoundToEven", "math.Float32frombits"], unfollowed := true, recurses := true, apart := false }
def FnPackedMeshesSaid : Prop := fnPackedMeshesRow.holds Try.pinned (OpenSpec.ofChange fnPackedMeshesSpec)

/-- ITS FALSE NEIGHBOUR: 'it returns false'. Refute it at one input. -/
def fnPackedMeshesWrong : ChangeSpec := { name := "fnPackedMeshes", fn := fun _ => fun
  | [d1, d2] => { results := [.lit (.bool false)], args := [d1, d2] }
  | _ => none }
def FnPackedMeshesWrongFalsely : Prop := fnPackedMeshesRow.holds Try.pinned (OpenSpec.ofChange fnPackedMeshesWrong)

/-- 'laws.FnExactWorstBetween': WHATEVER THE INPUT: true; the input reads as it did. -/
def fnExactWorstBetweenSpec : ChangeSpec := { name := "fnExactWorstBetween", fn := fun _ => fun
  | [d1, d2] => { results := [.lit (.bool true)], args := [d1, d2] }
  | _ => none }
def fnExactWorstBetweenRow : OpenClaim := { program := "ytnommdpgmoljcaa", sum := "0a460269ae7a66df3e24286c177896461c652ed163e870538687258bd3099440", func := "loop.example/g01237/laws.FnExactWorstBetween", spec := "fnExactWorstBetween", inPlace := ["math.archFloor", "math.Float64bits", "math.Float64frombits", "math.archTrunc", "math.sqrt"], unfollowed := true, recurses := true, apart := false }
def FnExactWorstBetweenSaid : Prop := fnExactWorstBetweenRow.holds Try.pinned (OpenSpec.ofChange fnExactWorstBetweenSpec)

/-- ITS FALSE NEIGHBOUR: 'it returns false'. Refute it at one input. -/
def fnExactWorstBetweenWrong : ChangeSpec := { name := "fnExactWorstBetween", fn := fun _ => fun
  | [d1, d2] => { results := [.lit (.bool false)], args := [d1, d2] }
  | _ => none }
def FnExactWorstBetweenWrongFalsely : Prop := fnExactWorstBetweenRow.holds Try.pinned (OpenSpec.ofChange fnExactWorstBetweenWrong)

/- THE SECOND FORM. 'bulk': how many values and letters a reading holds, each counted each time it is reached (what is shared counts as often as it is met; a slice's spare places count too). A statement '..UptoSaid' is the law's where the arguments, and the package variables that the reading takes, are together of bulk at most 1048576: NARROWER than '..Said'. Prove '..Said' where nothing that the law and all that it calls make is longer than what came in: it says more and counts as full. Else prove '..UptoSaid'. A law counts once. -/
mutual
def uptoBulk {H : Type} : DataW H → Nat
  | .lit (.string bytes) => bytes.length + 1
  | .lit _ => 1
  | .nil => 1
  | .ptr d => uptoBulk d + 1
  | .slice elems spare => uptoBulkAll elems + uptoBulkAll spare + 1
  | .agg parts => uptoBulkAll parts + 1
  | .iface _ d => uptoBulk d + 1
  | .map entries => uptoBulkEntries entries + 1
  | .held _ => 1
def uptoBulkAll {H : Type} : List (DataW H) → Nat
  | [] => 0
  | d :: r => uptoBulk d + uptoBulkAll r
def uptoBulkEntries {H : Type} : List (Lit × DataW H) → Nat
  | [] => 0
  | x :: r => uptoBulkEntry x + uptoBulkEntries r
def uptoBulkEntry {H : Type} : Lit × DataW H → Nat
  | (.string bytes, d) => bytes.length + uptoBulk d + 1
  | (_, d) => uptoBulk d + 1
 end
def uptoSmall : (H : Type) → List (DataW H) → Bool := fun _ ds => decide (uptoBulkAll ds ≤ 1048576)
def OpenSpec.upto (s : _root_.Go.ChangeSpec) : _root_.Go.OpenSpec := { _root_.Go.OpenSpec.ofChange s with cond := some uptoSmall }

/-- 'laws.FnExactFillMesh', WHERE WHAT IT READS IS OF BULK AT MOST 1048576: true; the input reads as it did. -/
def fnExactFillMeshUptoRow : OpenClaim := { program := "ytnommdpgmoljcaa", sum := "0a460269ae7a66df3e24286c177896461c652ed163e870538687258bd3099440", func := "loop.example/g01237/laws.FnExactFillMesh", spec := "fnExactFillMesh", inPlace := ["math.sqrt"], unfollowed := true, recurses := true, apart := false, narrowed := true }
def FnExactFillMeshUptoSaid : Prop := fnExactFillMeshUptoRow.holds Try.pinned (OpenSpec.upto fnExactFillMeshSpec)

/-- 'laws.FnExactUnpackMesh', WHERE WHAT IT READS IS OF BULK AT MOST 1048576: true; the input reads as it did. -/
def fnExactUnpackMeshUptoRow : OpenClaim := { program := "ytnommdpgmoljcaa", sum := "0a460269ae7a66df3e24286c177896461c652ed163e870538687258bd3099440", func := "loop.example/g01237/laws.FnExactUnpackMesh", spec := "fnExactUnpackMesh", inPlace := ["math.Float32frombits", "math.Float32bits", "math.RoundToEven", "math.Float64bits", "math.Float64frombits"], unfollowed := true, recurses := true, apart := false, narrowed := true }
def FnExactUnpackMeshUptoSaid : Prop := fnExactUnpackMeshUptoRow.holds Try.pinned (OpenSpec.upto fnExactUnpackMeshSpec)

/-- 'laws.FnExactRoundMesh', WHERE WHAT IT READS IS OF BULK AT MOST 1048576: true; the input reads as it did. -/
def fnExactRoundMeshUptoRow : OpenClaim := { program := "ytnommdpgmoljcaa", sum := "0a460269ae7a66df3e24286c177896461c652ed163e870538687258bd3099440", func := "loop.example/g01237/laws.FnExactRoundMesh", spec := "fnExactRoundMesh", inPlace := ["math.Float32bits", "math.RoundToEven", "math.Float32frombits", "math.Float64bits", "math.Float64frombits"], unfollowed := true, recurses := true, apart := false, narrowed := true }
def FnExactRoundMeshUptoSaid : Prop := fnExactRoundMeshUptoRow.holds Try.pinned (OpenSpec.upto fnExactRoundMeshSpec)

/-- 'laws.FnPackedMeshes', WHERE WHAT IT READS IS OF BULK AT MOST 1048576: true; the input reads as it did. -/
def fnPackedMeshesUptoRow : OpenClaim := { program := "ytnommdpgmoljcaa", sum := "0a460269ae7a66df3e24286c177896461c652ed163e870538687258bd3099440", func := "loop.example/g01237/laws.FnPackedMeshes", spec := "fnPackedMeshes", inPlace := ["math.Float64bits", "math.Float64frombits", "math.Float32bits", "math.RoundToEven", "math.Float32frombits"], unfollowed := true, recurses := true, apart := false, narrowed := true }
def FnPackedMeshesUptoSaid : Prop := fnPackedMeshesUptoRow.holds Try.pinned (OpenSpec.upto fnPackedMeshesSpec)

/-- 'laws.FnExactWorstBetween', WHERE WHAT IT READS IS OF BULK AT MOST 1048576: true; the input reads as it did. -/
def fnExactWorstBetweenUptoRow : OpenClaim := { program := "ytnommdpgmoljcaa", sum := "0a460269ae7a66df3e24286c177896461c652ed163e870538687258bd3099440", func := "loop.example/g01237/laws.FnExactWorstBetween", spec := "fnExactWorstBetween", inPlace := ["math.archFloor", "math.Float64bits", "math.Float64frombits", "math.archTrunc", "math.sqrt"], unfollowed := true, recurses := true, apart := false, narrowed := true }
def FnExactWorstBetweenUptoSaid : Prop := fnExactWorstBetweenUptoRow.holds Try.pinned (OpenSpec.upto fnExactWorstBetweenSpec)

end Rows
end Go.Proofs.Ytnommdpgmoljcaa
