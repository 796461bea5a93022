/- Walks: Ridge. Printed by gen.py. -/
import Derived.Test.YtcimhmnbemgpoaaWSquare
import Derived.Test.YtcimhmnbemgpoaaWMark
import Derived.Test.YtcimhmnbemgpoaaRidge
import Derived.KernelRfl
namespace Go.Proofs.Ytcimhmnbemgpoaa
open Go.RowKit
set_option linter.unusedVariables false
set_option linter.unusedSimpArgs false
set_option maxRecDepth 20000




end Go.Proofs.Ytcimhmnbemgpoaa
