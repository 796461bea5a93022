/- Starts of lines: all steps were looked at. -/
import Derived.Test.YtfkblhlkeglilaaMd
namespace Go.Proofs.Ytfkblhlkeglilaa
open Mt

set_option maxRecDepth 100000
theorem vs_3_13 : stc (Int.negSucc 4) (Int.ofNat 5) 17 (Int.negSucc 7) = true := by decide +kernel
theorem vs_3_14 : stc (Int.negSucc 4) (Int.ofNat 6) 17 (Int.negSucc 7) = true := by decide +kernel
theorem vs_3_15 : stc (Int.negSucc 4) (Int.ofNat 7) 17 (Int.negSucc 7) = true := by decide +kernel
theorem vs_3_16 : stc (Int.negSucc 4) (Int.ofNat 8) 17 (Int.negSucc 7) = true := by decide +kernel
theorem vs_4_0 : stc (Int.negSucc 3) (Int.negSucc 7) 17 (Int.negSucc 7) = true := by decide +kernel
theorem vs_4_1 : stc (Int.negSucc 3) (Int.negSucc 6) 17 (Int.negSucc 7) = true := by decide +kernel
theorem vs_4_2 : stc (Int.negSucc 3) (Int.negSucc 5) 17 (Int.negSucc 7) = true := by decide +kernel
theorem vs_4_3 : stc (Int.negSucc 3) (Int.negSucc 4) 17 (Int.negSucc 7) = true := by decide +kernel
theorem vs_4_4 : stc (Int.negSucc 3) (Int.negSucc 3) 17 (Int.negSucc 7) = true := by decide +kernel
end Go.Proofs.Ytfkblhlkeglilaa
