/- Starts of lines: all steps were looked at. -/
import Derived.Test.YtfkblhlkeglilaaMd
namespace Go.Proofs.Ytfkblhlkeglilaa
open Mt

set_option maxRecDepth 100000
theorem vs_2_12 : stc (Int.negSucc 5) (Int.ofNat 4) 17 (Int.negSucc 7) = true := by decide +kernel
theorem vs_2_13 : stc (Int.negSucc 5) (Int.ofNat 5) 17 (Int.negSucc 7) = true := by decide +kernel
theorem vs_2_14 : stc (Int.negSucc 5) (Int.ofNat 6) 17 (Int.negSucc 7) = true := by decide +kernel
theorem vs_2_15 : stc (Int.negSucc 5) (Int.ofNat 7) 17 (Int.negSucc 7) = true := by decide +kernel
theorem vs_2_16 : stc (Int.negSucc 5) (Int.ofNat 8) 17 (Int.negSucc 7) = true := by decide +kernel
theorem vs_3_0 : stc (Int.negSucc 4) (Int.negSucc 7) 17 (Int.negSucc 7) = true := by decide +kernel
theorem vs_3_1 : stc (Int.negSucc 4) (Int.negSucc 6) 17 (Int.negSucc 7) = true := by decide +kernel
end Go.Proofs.Ytfkblhlkeglilaa
