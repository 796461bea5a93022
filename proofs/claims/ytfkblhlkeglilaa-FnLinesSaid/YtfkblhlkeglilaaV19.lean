/- Starts of lines: all steps were looked at. -/
import Derived.Test.YtfkblhlkeglilaaMd
namespace Go.Proofs.Ytfkblhlkeglilaa
open Mt

set_option maxRecDepth 100000
theorem vs_5_6 : stc (Int.negSucc 2) (Int.negSucc 1) 17 (Int.negSucc 7) = true := by decide +kernel
theorem vs_5_7 : stc (Int.negSucc 2) (Int.negSucc 0) 17 (Int.negSucc 7) = true := by decide +kernel
theorem vs_5_8 : stc (Int.negSucc 2) (Int.ofNat 0) 17 (Int.negSucc 7) = true := by decide +kernel
theorem vs_5_9 : stc (Int.negSucc 2) (Int.ofNat 1) 17 (Int.negSucc 7) = true := by decide +kernel
theorem vs_5_10 : stc (Int.negSucc 2) (Int.ofNat 2) 17 (Int.negSucc 7) = true := by decide +kernel
theorem vs_5_11 : stc (Int.negSucc 2) (Int.ofNat 3) 17 (Int.negSucc 7) = true := by decide +kernel
theorem vs_5_12 : stc (Int.negSucc 2) (Int.ofNat 4) 17 (Int.negSucc 7) = true := by decide +kernel
theorem vs_5_13 : stc (Int.negSucc 2) (Int.ofNat 5) 17 (Int.negSucc 7) = true := by decide +kernel
theorem vs_5_14 : stc (Int.negSucc 2) (Int.ofNat 6) 17 (Int.negSucc 7) = true := by decide +kernel
theorem vs_5_15 : stc (Int.negSucc 2) (Int.ofNat 7) 17 (Int.negSucc 7) = true := by decide +kernel
end Go.Proofs.Ytfkblhlkeglilaa
