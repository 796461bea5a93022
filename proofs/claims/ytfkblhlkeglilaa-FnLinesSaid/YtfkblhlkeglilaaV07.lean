/- Starts of lines: all steps were looked at. -/
import Derived.Test.YtfkblhlkeglilaaMd
namespace Go.Proofs.Ytfkblhlkeglilaa
open Mt

set_option maxRecDepth 100000
theorem vs_2_13 : stc (Int.negSucc 5) (Int.ofNat 5) 17 (Int.negSucc 7) = true := by
  repeat refine k1 (by decide +kernel) ?_
  exact k0
theorem vs_2_14 : stc (Int.negSucc 5) (Int.ofNat 6) 17 (Int.negSucc 7) = true := by
  repeat refine k1 (by decide +kernel) ?_
  exact k0
theorem vs_2_15 : stc (Int.negSucc 5) (Int.ofNat 7) 17 (Int.negSucc 7) = true := by
  repeat refine k1 (by decide +kernel) ?_
  exact k0
theorem vs_2_16 : stc (Int.negSucc 5) (Int.ofNat 8) 17 (Int.negSucc 7) = true := by
  repeat refine k1 (by decide +kernel) ?_
  exact k0
theorem vs_3_0 : stc (Int.negSucc 4) (Int.negSucc 7) 17 (Int.negSucc 7) = true := by
  repeat refine k1 (by decide +kernel) ?_
  exact k0
theorem vs_3_1 : stc (Int.negSucc 4) (Int.negSucc 6) 17 (Int.negSucc 7) = true := by
  repeat refine k1 (by decide +kernel) ?_
  exact k0
theorem vs_3_2 : stc (Int.negSucc 4) (Int.negSucc 5) 17 (Int.negSucc 7) = true := by
  repeat refine k1 (by decide +kernel) ?_
  exact k0
theorem vs_3_3 : stc (Int.negSucc 4) (Int.negSucc 4) 17 (Int.negSucc 7) = true := by
  repeat refine k1 (by decide +kernel) ?_
  exact k0
theorem vs_3_4 : stc (Int.negSucc 4) (Int.negSucc 3) 17 (Int.negSucc 7) = true := by
  repeat refine k1 (by decide +kernel) ?_
  exact k0
theorem vs_3_5 : stc (Int.negSucc 4) (Int.negSucc 2) 17 (Int.negSucc 7) = true := by
  repeat refine k1 (by decide +kernel) ?_
  exact k0
theorem vs_3_6 : stc (Int.negSucc 4) (Int.negSucc 1) 17 (Int.negSucc 7) = true := by
  repeat refine k1 (by decide +kernel) ?_
  exact k0
theorem vs_3_7 : stc (Int.negSucc 4) (Int.negSucc 0) 17 (Int.negSucc 7) = true := by
  repeat refine k1 (by decide +kernel) ?_
  exact k0
end Go.Proofs.Ytfkblhlkeglilaa
