/- Starts of lines: all steps were looked at. -/
import Derived.Test.YtfkblhlkeglilaaMd
namespace Go.Proofs.Ytfkblhlkeglilaa
open Mt

set_option maxRecDepth 100000
theorem vs_3_8 : stc (Int.negSucc 4) (Int.ofNat 0) 17 (Int.negSucc 7) = true := by decide +kernel
theorem vs_3_9 : stc (Int.negSucc 4) (Int.ofNat 1) 17 (Int.negSucc 7) = true := by decide +kernel
theorem vs_3_10 : stc (Int.negSucc 4) (Int.ofNat 2) 17 (Int.negSucc 7) = true := by decide +kernel
theorem vs_3_11 : stc (Int.negSucc 4) (Int.ofNat 3) 17 (Int.negSucc 7) = true := by decide +kernel
theorem vs_3_12 : stc (Int.negSucc 4) (Int.ofNat 4) 17 (Int.negSucc 7) = true := by decide +kernel
end Go.Proofs.Ytfkblhlkeglilaa
