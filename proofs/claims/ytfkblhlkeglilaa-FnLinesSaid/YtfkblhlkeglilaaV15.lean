/- Starts of lines: all steps were looked at. -/
import Derived.Test.YtfkblhlkeglilaaMd
namespace Go.Proofs.Ytfkblhlkeglilaa
open Mt

set_option maxRecDepth 100000
theorem vs_14_8 : stc (Int.ofNat 6) (Int.ofNat 0) 17 (Int.negSucc 7) = true := by
  repeat refine k1 (by decide +kernel) ?_
  exact k0
theorem vs_14_9 : stc (Int.ofNat 6) (Int.ofNat 1) 17 (Int.negSucc 7) = true := by
  repeat refine k1 (by decide +kernel) ?_
  exact k0
theorem vs_14_10 : stc (Int.ofNat 6) (Int.ofNat 2) 17 (Int.negSucc 7) = true := by
  repeat refine k1 (by decide +kernel) ?_
  exact k0
theorem vs_14_11 : stc (Int.ofNat 6) (Int.ofNat 3) 17 (Int.negSucc 7) = true := by
  repeat refine k1 (by decide +kernel) ?_
  exact k0
theorem vs_14_12 : stc (Int.ofNat 6) (Int.ofNat 4) 17 (Int.negSucc 7) = true := by
  repeat refine k1 (by decide +kernel) ?_
  exact k0
theorem vs_14_13 : stc (Int.ofNat 6) (Int.ofNat 5) 17 (Int.negSucc 7) = true := by
  repeat refine k1 (by decide +kernel) ?_
  exact k0
theorem vs_14_14 : stc (Int.ofNat 6) (Int.ofNat 6) 17 (Int.negSucc 7) = true := by
  repeat refine k1 (by decide +kernel) ?_
  exact k0
theorem vs_14_15 : stc (Int.ofNat 6) (Int.ofNat 7) 17 (Int.negSucc 7) = true := by
  repeat refine k1 (by decide +kernel) ?_
  exact k0
theorem vs_14_16 : stc (Int.ofNat 6) (Int.ofNat 8) 17 (Int.negSucc 7) = true := by
  repeat refine k1 (by decide +kernel) ?_
  exact k0
theorem vs_15_0 : stc (Int.ofNat 7) (Int.negSucc 7) 17 (Int.negSucc 7) = true := by
  repeat refine k1 (by decide +kernel) ?_
  exact k0
theorem vs_15_1 : stc (Int.ofNat 7) (Int.negSucc 6) 17 (Int.negSucc 7) = true := by
  repeat refine k1 (by decide +kernel) ?_
  exact k0
theorem vs_15_2 : stc (Int.ofNat 7) (Int.negSucc 5) 17 (Int.negSucc 7) = true := by
  repeat refine k1 (by decide +kernel) ?_
  exact k0
theorem vs_15_3 : stc (Int.ofNat 7) (Int.negSucc 4) 17 (Int.negSucc 7) = true := by
  repeat refine k1 (by decide +kernel) ?_
  exact k0
theorem vs_15_4 : stc (Int.ofNat 7) (Int.negSucc 3) 17 (Int.negSucc 7) = true := by
  repeat refine k1 (by decide +kernel) ?_
  exact k0
theorem vs_15_5 : stc (Int.ofNat 7) (Int.negSucc 2) 17 (Int.negSucc 7) = true := by
  repeat refine k1 (by decide +kernel) ?_
  exact k0
theorem vs_15_6 : stc (Int.ofNat 7) (Int.negSucc 1) 17 (Int.negSucc 7) = true := by
  repeat refine k1 (by decide +kernel) ?_
  exact k0
theorem vs_15_7 : stc (Int.ofNat 7) (Int.negSucc 0) 17 (Int.negSucc 7) = true := by
  repeat refine k1 (by decide +kernel) ?_
  exact k0
theorem vs_15_8 : stc (Int.ofNat 7) (Int.ofNat 0) 17 (Int.negSucc 7) = true := by
  repeat refine k1 (by decide +kernel) ?_
  exact k0
theorem vs_15_9 : stc (Int.ofNat 7) (Int.ofNat 1) 17 (Int.negSucc 7) = true := by
  repeat refine k1 (by decide +kernel) ?_
  exact k0
theorem vs_15_10 : stc (Int.ofNat 7) (Int.ofNat 2) 17 (Int.negSucc 7) = true := by
  repeat refine k1 (by decide +kernel) ?_
  exact k0
theorem vs_15_11 : stc (Int.ofNat 7) (Int.ofNat 3) 17 (Int.negSucc 7) = true := by
  repeat refine k1 (by decide +kernel) ?_
  exact k0
theorem vs_15_12 : stc (Int.ofNat 7) (Int.ofNat 4) 17 (Int.negSucc 7) = true := by
  repeat refine k1 (by decide +kernel) ?_
  exact k0
theorem vs_15_13 : stc (Int.ofNat 7) (Int.ofNat 5) 17 (Int.negSucc 7) = true := by
  repeat refine k1 (by decide +kernel) ?_
  exact k0
theorem vs_15_14 : stc (Int.ofNat 7) (Int.ofNat 6) 17 (Int.negSucc 7) = true := by
  repeat refine k1 (by decide +kernel) ?_
  exact k0
theorem vs_15_15 : stc (Int.ofNat 7) (Int.ofNat 7) 17 (Int.negSucc 7) = true := by
  repeat refine k1 (by decide +kernel) ?_
  exact k0
theorem vs_15_16 : stc (Int.ofNat 7) (Int.ofNat 8) 17 (Int.negSucc 7) = true := by
  repeat refine k1 (by decide +kernel) ?_
  exact k0
theorem vs_16_0 : stc (Int.ofNat 8) (Int.negSucc 7) 17 (Int.negSucc 7) = true := by
  repeat refine k1 (by decide +kernel) ?_
  exact k0
theorem vs_16_1 : stc (Int.ofNat 8) (Int.negSucc 6) 17 (Int.negSucc 7) = true := by
  repeat refine k1 (by decide +kernel) ?_
  exact k0
theorem vs_16_2 : stc (Int.ofNat 8) (Int.negSucc 5) 17 (Int.negSucc 7) = true := by
  repeat refine k1 (by decide +kernel) ?_
  exact k0
theorem vs_16_3 : stc (Int.ofNat 8) (Int.negSucc 4) 17 (Int.negSucc 7) = true := by
  repeat refine k1 (by decide +kernel) ?_
  exact k0
theorem vs_16_4 : stc (Int.ofNat 8) (Int.negSucc 3) 17 (Int.negSucc 7) = true := by
  repeat refine k1 (by decide +kernel) ?_
  exact k0
theorem vs_16_5 : stc (Int.ofNat 8) (Int.negSucc 2) 17 (Int.negSucc 7) = true := by
  repeat refine k1 (by decide +kernel) ?_
  exact k0
theorem vs_16_6 : stc (Int.ofNat 8) (Int.negSucc 1) 17 (Int.negSucc 7) = true := by
  repeat refine k1 (by decide +kernel) ?_
  exact k0
theorem vs_16_7 : stc (Int.ofNat 8) (Int.negSucc 0) 17 (Int.negSucc 7) = true := by
  repeat refine k1 (by decide +kernel) ?_
  exact k0
theorem vs_16_8 : stc (Int.ofNat 8) (Int.ofNat 0) 17 (Int.negSucc 7) = true := by
  repeat refine k1 (by decide +kernel) ?_
  exact k0
theorem vs_16_9 : stc (Int.ofNat 8) (Int.ofNat 1) 17 (Int.negSucc 7) = true := by
  repeat refine k1 (by decide +kernel) ?_
  exact k0
theorem vs_16_10 : stc (Int.ofNat 8) (Int.ofNat 2) 17 (Int.negSucc 7) = true := by
  repeat refine k1 (by decide +kernel) ?_
  exact k0
end Go.Proofs.Ytfkblhlkeglilaa
