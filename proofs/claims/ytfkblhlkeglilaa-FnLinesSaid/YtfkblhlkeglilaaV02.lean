/- Starts of lines: all steps were looked at. -/
import Derived.Test.YtfkblhlkeglilaaMd
namespace Go.Proofs.Ytfkblhlkeglilaa
open Mt

set_option maxRecDepth 100000
theorem vs_0_4 : stc (Int.negSucc 7) (Int.negSucc 3) 17 (Int.negSucc 7) = true := by decide +kernel
theorem vs_0_5 : stc (Int.negSucc 7) (Int.negSucc 2) 17 (Int.negSucc 7) = true := by decide +kernel
theorem vs_0_6 : stc (Int.negSucc 7) (Int.negSucc 1) 17 (Int.negSucc 7) = true := by decide +kernel
end Go.Proofs.Ytfkblhlkeglilaa
