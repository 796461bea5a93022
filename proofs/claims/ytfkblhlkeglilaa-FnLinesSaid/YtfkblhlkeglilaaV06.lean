/- Starts of lines: all steps were looked at. -/
import Derived.Test.YtfkblhlkeglilaaMd
namespace Go.Proofs.Ytfkblhlkeglilaa
open Mt

set_option maxRecDepth 100000
theorem vs_1_1 : stc (Int.negSucc 6) (Int.negSucc 6) 17 (Int.negSucc 7) = true := by decide +kernel
theorem vs_1_2 : stc (Int.negSucc 6) (Int.negSucc 5) 17 (Int.negSucc 7) = true := by decide +kernel
theorem vs_1_3 : stc (Int.negSucc 6) (Int.negSucc 4) 17 (Int.negSucc 7) = true := by decide +kernel
theorem vs_1_4 : stc (Int.negSucc 6) (Int.negSucc 3) 17 (Int.negSucc 7) = true := by decide +kernel
end Go.Proofs.Ytfkblhlkeglilaa
