/- Walks: Steps. Printed by gen.py. -/
import Derived.Test.YtcimhmnbemgpoaaWFl
import Derived.Test.YtcimhmnbemgpoaaNar
import Derived.KernelRfl
namespace Go.Proofs.Ytcimhmnbemgpoaa
open Go.RowKit
set_option linter.unusedVariables false
set_option linter.unusedSimpArgs false
set_option maxRecDepth 20000




end Go.Proofs.Ytcimhmnbemgpoaa
