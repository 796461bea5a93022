/- Starts of lines: all steps were looked at. -/
import Derived.Test.YtfkblhlkeglilaaMd
namespace Go.Proofs.Ytfkblhlkeglilaa
open Mt

set_option maxRecDepth 100000
theorem vs_1_5 : stc (Int.negSucc 6) (Int.negSucc 2) 17 (Int.negSucc 7) = true := by decide +kernel
theorem vs_1_6 : stc (Int.negSucc 6) (Int.negSucc 1) 17 (Int.negSucc 7) = true := by decide +kernel
theorem vs_1_7 : stc (Int.negSucc 6) (Int.negSucc 0) 17 (Int.negSucc 7) = true := by decide +kernel
end Go.Proofs.Ytfkblhlkeglilaa
