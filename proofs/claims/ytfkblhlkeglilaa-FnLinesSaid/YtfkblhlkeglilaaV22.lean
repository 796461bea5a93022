/- Starts of lines: all steps were looked at. -/
import Derived.Test.YtfkblhlkeglilaaMd
namespace Go.Proofs.Ytfkblhlkeglilaa
open Mt

set_option maxRecDepth 100000
theorem vs_7_11 : stc (Int.negSucc 0) (Int.ofNat 3) 17 (Int.negSucc 7) = true := by decide +kernel
theorem vs_7_12 : stc (Int.negSucc 0) (Int.ofNat 4) 17 (Int.negSucc 7) = true := by decide +kernel
theorem vs_7_13 : stc (Int.negSucc 0) (Int.ofNat 5) 17 (Int.negSucc 7) = true := by decide +kernel
theorem vs_7_14 : stc (Int.negSucc 0) (Int.ofNat 6) 17 (Int.negSucc 7) = true := by decide +kernel
theorem vs_7_15 : stc (Int.negSucc 0) (Int.ofNat 7) 17 (Int.negSucc 7) = true := by decide +kernel
theorem vs_7_16 : stc (Int.negSucc 0) (Int.ofNat 8) 17 (Int.negSucc 7) = true := by decide +kernel
theorem vs_8_0 : stc (Int.ofNat 0) (Int.negSucc 7) 17 (Int.negSucc 7) = true := by decide +kernel
theorem vs_8_1 : stc (Int.ofNat 0) (Int.negSucc 6) 17 (Int.negSucc 7) = true := by decide +kernel
theorem vs_8_2 : stc (Int.ofNat 0) (Int.negSucc 5) 17 (Int.negSucc 7) = true := by decide +kernel
theorem vs_8_3 : stc (Int.ofNat 0) (Int.negSucc 4) 17 (Int.negSucc 7) = true := by decide +kernel
theorem vs_8_4 : stc (Int.ofNat 0) (Int.negSucc 3) 17 (Int.negSucc 7) = true := by decide +kernel
theorem vs_8_5 : stc (Int.ofNat 0) (Int.negSucc 2) 17 (Int.negSucc 7) = true := by decide +kernel
theorem vs_8_6 : stc (Int.ofNat 0) (Int.negSucc 1) 17 (Int.negSucc 7) = true := by decide +kernel
theorem vs_8_7 : stc (Int.ofNat 0) (Int.negSucc 0) 17 (Int.negSucc 7) = true := by decide +kernel
theorem vs_8_8 : stc (Int.ofNat 0) (Int.ofNat 0) 17 (Int.negSucc 7) = true := by decide +kernel
theorem vs_8_9 : stc (Int.ofNat 0) (Int.ofNat 1) 17 (Int.negSucc 7) = true := by decide +kernel
theorem vs_8_10 : stc (Int.ofNat 0) (Int.ofNat 2) 17 (Int.negSucc 7) = true := by decide +kernel
theorem vs_8_11 : stc (Int.ofNat 0) (Int.ofNat 3) 17 (Int.negSucc 7) = true := by decide +kernel
theorem vs_8_12 : stc (Int.ofNat 0) (Int.ofNat 4) 17 (Int.negSucc 7) = true := by decide +kernel
end Go.Proofs.Ytfkblhlkeglilaa
