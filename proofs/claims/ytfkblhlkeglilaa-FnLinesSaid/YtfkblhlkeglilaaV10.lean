/- Starts of lines: all steps were looked at. -/
import Derived.Test.YtfkblhlkeglilaaMd
namespace Go.Proofs.Ytfkblhlkeglilaa
open Mt

set_option maxRecDepth 100000
theorem vs_1_15 : stc (Int.negSucc 6) (Int.ofNat 7) 17 (Int.negSucc 7) = true := by decide +kernel
theorem vs_1_16 : stc (Int.negSucc 6) (Int.ofNat 8) 17 (Int.negSucc 7) = true := by decide +kernel
theorem vs_2_0 : stc (Int.negSucc 5) (Int.negSucc 7) 17 (Int.negSucc 7) = true := by decide +kernel
theorem vs_2_1 : stc (Int.negSucc 5) (Int.negSucc 6) 17 (Int.negSucc 7) = true := by decide +kernel
theorem vs_2_2 : stc (Int.negSucc 5) (Int.negSucc 5) 17 (Int.negSucc 7) = true := by decide +kernel
theorem vs_2_3 : stc (Int.negSucc 5) (Int.negSucc 4) 17 (Int.negSucc 7) = true := by decide +kernel
end Go.Proofs.Ytfkblhlkeglilaa
