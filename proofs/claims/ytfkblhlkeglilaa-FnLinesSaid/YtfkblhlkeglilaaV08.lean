/- Starts of lines: all steps were looked at. -/
import Derived.Test.YtfkblhlkeglilaaMd
namespace Go.Proofs.Ytfkblhlkeglilaa
open Mt

set_option maxRecDepth 100000
theorem vs_3_8 : stc (Int.negSucc 4) (Int.ofNat 0) 17 (Int.negSucc 7) = true := by
  repeat refine k1 (by decide +kernel) ?_
  exact k0
theorem vs_3_9 : stc (Int.negSucc 4) (Int.ofNat 1) 17 (Int.negSucc 7) = true := by
  repeat refine k1 (by decide +kernel) ?_
  exact k0
theorem vs_3_10 : stc (Int.negSucc 4) (Int.ofNat 2) 17 (Int.negSucc 7) = true := by
  repeat refine k1 (by decide +kernel) ?_
  exact k0
theorem vs_3_11 : stc (Int.negSucc 4) (Int.ofNat 3) 17 (Int.negSucc 7) = true := by
  repeat refine k1 (by decide +kernel) ?_
  exact k0
theorem vs_3_12 : stc (Int.negSucc 4) (Int.ofNat 4) 17 (Int.negSucc 7) = true := by
  repeat refine k1 (by decide +kernel) ?_
  exact k0
theorem vs_3_13 : stc (Int.negSucc 4) (Int.ofNat 5) 17 (Int.negSucc 7) = true := by
  repeat refine k1 (by decide +kernel) ?_
  exact k0
theorem vs_3_14 : stc (Int.negSucc 4) (Int.ofNat 6) 17 (Int.negSucc 7) = true := by
  repeat refine k1 (by decide +kernel) ?_
  exact k0
theorem vs_3_15 : stc (Int.negSucc 4) (Int.ofNat 7) 17 (Int.negSucc 7) = true := by
  repeat refine k1 (by decide +kernel) ?_
  exact k0
theorem vs_3_16 : stc (Int.negSucc 4) (Int.ofNat 8) 17 (Int.negSucc 7) = true := by
  repeat refine k1 (by decide +kernel) ?_
  exact k0
theorem vs_4_0 : stc (Int.negSucc 3) (Int.negSucc 7) 17 (Int.negSucc 7) = true := by
  repeat refine k1 (by decide +kernel) ?_
  exact k0
theorem vs_4_1 : stc (Int.negSucc 3) (Int.negSucc 6) 17 (Int.negSucc 7) = true := by
  repeat refine k1 (by decide +kernel) ?_
  exact k0
theorem vs_4_2 : stc (Int.negSucc 3) (Int.negSucc 5) 17 (Int.negSucc 7) = true := by
  repeat refine k1 (by decide +kernel) ?_
  exact k0
theorem vs_4_3 : stc (Int.negSucc 3) (Int.negSucc 4) 17 (Int.negSucc 7) = true := by
  repeat refine k1 (by decide +kernel) ?_
  exact k0
end Go.Proofs.Ytfkblhlkeglilaa
