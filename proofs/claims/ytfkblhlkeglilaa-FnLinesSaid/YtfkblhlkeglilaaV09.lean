/- Starts of lines: all steps were looked at. -/
import Derived.Test.YtfkblhlkeglilaaMd
namespace Go.Proofs.Ytfkblhlkeglilaa
open Mt

set_option maxRecDepth 100000
theorem vs_1_11 : stc (Int.negSucc 6) (Int.ofNat 3) 17 (Int.negSucc 7) = true := by decide +kernel
theorem vs_1_12 : stc (Int.negSucc 6) (Int.ofNat 4) 17 (Int.negSucc 7) = true := by decide +kernel
theorem vs_1_13 : stc (Int.negSucc 6) (Int.ofNat 5) 17 (Int.negSucc 7) = true := by decide +kernel
theorem vs_1_14 : stc (Int.negSucc 6) (Int.ofNat 6) 17 (Int.negSucc 7) = true := by decide +kernel
end Go.Proofs.Ytfkblhlkeglilaa
