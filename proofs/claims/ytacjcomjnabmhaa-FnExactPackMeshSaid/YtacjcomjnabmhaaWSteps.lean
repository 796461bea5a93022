/- Walks: Steps. Printed by gen.py. -/
import Derived.Test.YtacjcomjnabmhaaWFl
import Derived.Test.YtacjcomjnabmhaaNar
import Derived.KernelRfl
namespace Go.Proofs.Ytacjcomjnabmhaa
open Go.RowKit
set_option linter.unusedVariables false
set_option linter.unusedSimpArgs false
set_option maxRecDepth 20000




end Go.Proofs.Ytacjcomjnabmhaa
