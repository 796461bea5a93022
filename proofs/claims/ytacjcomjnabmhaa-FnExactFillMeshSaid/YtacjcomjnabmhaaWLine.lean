/- Walks: Line. Printed by gen.py. -/
import Derived.Test.YtacjcomjnabmhaaWFlat
import Derived.Test.YtacjcomjnabmhaaLine
import Derived.KernelRfl
namespace Go.Proofs.Ytacjcomjnabmhaa
open Go.RowKit
set_option linter.unusedVariables false
set_option linter.unusedSimpArgs false
set_option maxRecDepth 20000

attribute [local irreducible] fop fcmp fconv sqrt32 fneg segF fieldS fieldI List.getD unit3 dirV dirI midI stepV stepOk dirOk


end Go.Proofs.Ytacjcomjnabmhaa
