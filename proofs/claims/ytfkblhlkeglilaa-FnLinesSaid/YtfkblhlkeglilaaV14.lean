/- Starts of lines: all steps were looked at. -/
import Derived.Test.YtfkblhlkeglilaaMd
namespace Go.Proofs.Ytfkblhlkeglilaa
open Mt

set_option maxRecDepth 100000
theorem vs_3_2 : stc (Int.negSucc 4) (Int.negSucc 5) 17 (Int.negSucc 7) = true := by decide +kernel
theorem vs_3_3 : stc (Int.negSucc 4) (Int.negSucc 4) 17 (Int.negSucc 7) = true := by decide +kernel
theorem vs_3_4 : stc (Int.negSucc 4) (Int.negSucc 3) 17 (Int.negSucc 7) = true := by decide +kernel
theorem vs_3_5 : stc (Int.negSucc 4) (Int.negSucc 2) 17 (Int.negSucc 7) = true := by decide +kernel
theorem vs_3_6 : stc (Int.negSucc 4) (Int.negSucc 1) 17 (Int.negSucc 7) = true := by decide +kernel
theorem vs_3_7 : stc (Int.negSucc 4) (Int.negSucc 0) 17 (Int.negSucc 7) = true := by decide +kernel
end Go.Proofs.Ytfkblhlkeglilaa
