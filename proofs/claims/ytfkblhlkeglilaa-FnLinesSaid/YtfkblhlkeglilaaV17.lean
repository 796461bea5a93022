/- Starts of lines: all steps were looked at. -/
import Derived.Test.YtfkblhlkeglilaaMd
namespace Go.Proofs.Ytfkblhlkeglilaa
open Mt

set_option maxRecDepth 100000
theorem vs_4_5 : stc (Int.negSucc 3) (Int.negSucc 2) 17 (Int.negSucc 7) = true := by decide +kernel
theorem vs_4_6 : stc (Int.negSucc 3) (Int.negSucc 1) 17 (Int.negSucc 7) = true := by decide +kernel
theorem vs_4_7 : stc (Int.negSucc 3) (Int.negSucc 0) 17 (Int.negSucc 7) = true := by decide +kernel
theorem vs_4_8 : stc (Int.negSucc 3) (Int.ofNat 0) 17 (Int.negSucc 7) = true := by decide +kernel
theorem vs_4_9 : stc (Int.negSucc 3) (Int.ofNat 1) 17 (Int.negSucc 7) = true := by decide +kernel
theorem vs_4_10 : stc (Int.negSucc 3) (Int.ofNat 2) 17 (Int.negSucc 7) = true := by decide +kernel
theorem vs_4_11 : stc (Int.negSucc 3) (Int.ofNat 3) 17 (Int.negSucc 7) = true := by decide +kernel
end Go.Proofs.Ytfkblhlkeglilaa
