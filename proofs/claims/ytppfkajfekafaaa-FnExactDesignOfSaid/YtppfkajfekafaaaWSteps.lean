/- Walks: Steps. Printed by gen.py. -/
import Derived.Test.YtppfkajfekafaaaWFl
import Derived.Test.YtppfkajfekafaaaNar
import Derived.KernelRfl
namespace Go.Proofs.Ytppfkajfekafaaa
open Go.RowKit
set_option linter.unusedVariables false
set_option linter.unusedSimpArgs false
set_option maxRecDepth 20000




end Go.Proofs.Ytppfkajfekafaaa
