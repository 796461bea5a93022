/- Walks: Field. Printed by gen.py. -/
import Derived.Test.YtcimhmnbemgpoaaWWire
import Derived.Test.YtcimhmnbemgpoaaField
import Derived.KernelRfl
namespace Go.Proofs.Ytcimhmnbemgpoaa
open Go.RowKit
set_option linter.unusedVariables false
set_option linter.unusedSimpArgs false
set_option maxRecDepth 20000

attribute [local irreducible] fop fcmp fconv sqrt32 fneg segF


end Go.Proofs.Ytcimhmnbemgpoaa
