/- Walks: Steps. Printed by gen.py. -/
import Derived.Test.YtiagofjakfbnjaaWFl
import Derived.Test.YtiagofjakfbnjaaNar
import Derived.KernelRfl
namespace Go.Proofs.Ytiagofjakfbnjaa
open Go.RowKit
set_option linter.unusedVariables false
set_option linter.unusedSimpArgs false
set_option maxRecDepth 20000




end Go.Proofs.Ytiagofjakfbnjaa
