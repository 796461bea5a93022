/- Starts of lines: all steps were looked at. -/
import Derived.Test.YtfkblhlkeglilaaMd
namespace Go.Proofs.Ytfkblhlkeglilaa
open Mt

set_option maxRecDepth 100000
theorem vs_0_7 : stc (Int.negSucc 7) (Int.negSucc 0) 17 (Int.negSucc 7) = true := by decide +kernel
theorem vs_0_8 : stc (Int.negSucc 7) (Int.ofNat 0) 17 (Int.negSucc 7) = true := by decide +kernel
theorem vs_0_9 : stc (Int.negSucc 7) (Int.ofNat 1) 17 (Int.negSucc 7) = true := by decide +kernel
end Go.Proofs.Ytfkblhlkeglilaa
