/- Starts of lines: all steps were looked at. -/
import Derived.Test.YtfkblhlkeglilaaMd
namespace Go.Proofs.Ytfkblhlkeglilaa
open Mt

set_option maxRecDepth 100000
theorem vs_16_2 : stc (Int.ofNat 8) (Int.negSucc 5) 17 (Int.negSucc 7) = true := by decide +kernel
theorem vs_16_3 : stc (Int.ofNat 8) (Int.negSucc 4) 17 (Int.negSucc 7) = true := by decide +kernel
theorem vs_16_4 : stc (Int.ofNat 8) (Int.negSucc 3) 17 (Int.negSucc 7) = true := by decide +kernel
theorem vs_16_5 : stc (Int.ofNat 8) (Int.negSucc 2) 17 (Int.negSucc 7) = true := by decide +kernel
theorem vs_16_6 : stc (Int.ofNat 8) (Int.negSucc 1) 17 (Int.negSucc 7) = true := by decide +kernel
theorem vs_16_7 : stc (Int.ofNat 8) (Int.negSucc 0) 17 (Int.negSucc 7) = true := by decide +kernel
theorem vs_16_8 : stc (Int.ofNat 8) (Int.ofNat 0) 17 (Int.negSucc 7) = true := by decide +kernel
theorem vs_16_9 : stc (Int.ofNat 8) (Int.ofNat 1) 17 (Int.negSucc 7) = true := by decide +kernel
theorem vs_16_10 : stc (Int.ofNat 8) (Int.ofNat 2) 17 (Int.negSucc 7) = true := by decide +kernel
theorem vs_16_11 : stc (Int.ofNat 8) (Int.ofNat 3) 17 (Int.negSucc 7) = true := by decide +kernel
theorem vs_16_12 : stc (Int.ofNat 8) (Int.ofNat 4) 17 (Int.negSucc 7) = true := by decide +kernel
theorem vs_16_13 : stc (Int.ofNat 8) (Int.ofNat 5) 17 (Int.negSucc 7) = true := by decide +kernel
theorem vs_16_14 : stc (Int.ofNat 8) (Int.ofNat 6) 17 (Int.negSucc 7) = true := by decide +kernel
theorem vs_16_15 : stc (Int.ofNat 8) (Int.ofNat 7) 17 (Int.negSucc 7) = true := by decide +kernel
theorem vs_16_16 : stc (Int.ofNat 8) (Int.ofNat 8) 17 (Int.negSucc 7) = true := by decide +kernel
end Go.Proofs.Ytfkblhlkeglilaa
