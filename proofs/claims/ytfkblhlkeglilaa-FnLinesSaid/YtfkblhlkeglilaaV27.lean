/- Starts of lines: all steps were looked at. -/
import Derived.Test.YtfkblhlkeglilaaMd
namespace Go.Proofs.Ytfkblhlkeglilaa
open Mt

set_option maxRecDepth 100000
theorem vs_13_11 : stc (Int.ofNat 5) (Int.ofNat 3) 17 (Int.negSucc 7) = true := by decide +kernel
theorem vs_13_12 : stc (Int.ofNat 5) (Int.ofNat 4) 17 (Int.negSucc 7) = true := by decide +kernel
theorem vs_13_13 : stc (Int.ofNat 5) (Int.ofNat 5) 17 (Int.negSucc 7) = true := by decide +kernel
theorem vs_13_14 : stc (Int.ofNat 5) (Int.ofNat 6) 17 (Int.negSucc 7) = true := by decide +kernel
theorem vs_13_15 : stc (Int.ofNat 5) (Int.ofNat 7) 17 (Int.negSucc 7) = true := by decide +kernel
theorem vs_13_16 : stc (Int.ofNat 5) (Int.ofNat 8) 17 (Int.negSucc 7) = true := by decide +kernel
theorem vs_14_0 : stc (Int.ofNat 6) (Int.negSucc 7) 17 (Int.negSucc 7) = true := by decide +kernel
theorem vs_14_1 : stc (Int.ofNat 6) (Int.negSucc 6) 17 (Int.negSucc 7) = true := by decide +kernel
theorem vs_14_2 : stc (Int.ofNat 6) (Int.negSucc 5) 17 (Int.negSucc 7) = true := by decide +kernel
theorem vs_14_3 : stc (Int.ofNat 6) (Int.negSucc 4) 17 (Int.negSucc 7) = true := by decide +kernel
theorem vs_14_4 : stc (Int.ofNat 6) (Int.negSucc 3) 17 (Int.negSucc 7) = true := by decide +kernel
theorem vs_14_5 : stc (Int.ofNat 6) (Int.negSucc 2) 17 (Int.negSucc 7) = true := by decide +kernel
theorem vs_14_6 : stc (Int.ofNat 6) (Int.negSucc 1) 17 (Int.negSucc 7) = true := by decide +kernel
theorem vs_14_7 : stc (Int.ofNat 6) (Int.negSucc 0) 17 (Int.negSucc 7) = true := by decide +kernel
theorem vs_14_8 : stc (Int.ofNat 6) (Int.ofNat 0) 17 (Int.negSucc 7) = true := by decide +kernel
theorem vs_14_9 : stc (Int.ofNat 6) (Int.ofNat 1) 17 (Int.negSucc 7) = true := by decide +kernel
theorem vs_14_10 : stc (Int.ofNat 6) (Int.ofNat 2) 17 (Int.negSucc 7) = true := by decide +kernel
theorem vs_14_11 : stc (Int.ofNat 6) (Int.ofNat 3) 17 (Int.negSucc 7) = true := by decide +kernel
theorem vs_14_12 : stc (Int.ofNat 6) (Int.ofNat 4) 17 (Int.negSucc 7) = true := by decide +kernel
theorem vs_14_13 : stc (Int.ofNat 6) (Int.ofNat 5) 17 (Int.negSucc 7) = true := by decide +kernel
theorem vs_14_14 : stc (Int.ofNat 6) (Int.ofNat 6) 17 (Int.negSucc 7) = true := by decide +kernel
end Go.Proofs.Ytfkblhlkeglilaa
