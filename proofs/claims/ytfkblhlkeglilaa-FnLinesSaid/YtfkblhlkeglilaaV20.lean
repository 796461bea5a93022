/- Starts of lines: all steps were looked at. -/
import Derived.Test.YtfkblhlkeglilaaMd
namespace Go.Proofs.Ytfkblhlkeglilaa
open Mt

set_option maxRecDepth 100000
theorem vs_5_16 : stc (Int.negSucc 2) (Int.ofNat 8) 17 (Int.negSucc 7) = true := by decide +kernel
theorem vs_6_0 : stc (Int.negSucc 1) (Int.negSucc 7) 17 (Int.negSucc 7) = true := by decide +kernel
theorem vs_6_1 : stc (Int.negSucc 1) (Int.negSucc 6) 17 (Int.negSucc 7) = true := by decide +kernel
theorem vs_6_2 : stc (Int.negSucc 1) (Int.negSucc 5) 17 (Int.negSucc 7) = true := by decide +kernel
theorem vs_6_3 : stc (Int.negSucc 1) (Int.negSucc 4) 17 (Int.negSucc 7) = true := by decide +kernel
theorem vs_6_4 : stc (Int.negSucc 1) (Int.negSucc 3) 17 (Int.negSucc 7) = true := by decide +kernel
theorem vs_6_5 : stc (Int.negSucc 1) (Int.negSucc 2) 17 (Int.negSucc 7) = true := by decide +kernel
theorem vs_6_6 : stc (Int.negSucc 1) (Int.negSucc 1) 17 (Int.negSucc 7) = true := by decide +kernel
theorem vs_6_7 : stc (Int.negSucc 1) (Int.negSucc 0) 17 (Int.negSucc 7) = true := by decide +kernel
theorem vs_6_8 : stc (Int.negSucc 1) (Int.ofNat 0) 17 (Int.negSucc 7) = true := by decide +kernel
theorem vs_6_9 : stc (Int.negSucc 1) (Int.ofNat 1) 17 (Int.negSucc 7) = true := by decide +kernel
theorem vs_6_10 : stc (Int.negSucc 1) (Int.ofNat 2) 17 (Int.negSucc 7) = true := by decide +kernel
theorem vs_6_11 : stc (Int.negSucc 1) (Int.ofNat 3) 17 (Int.negSucc 7) = true := by decide +kernel
end Go.Proofs.Ytfkblhlkeglilaa
