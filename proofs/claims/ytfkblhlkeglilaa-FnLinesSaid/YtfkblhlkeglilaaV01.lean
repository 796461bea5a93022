/- Starts of lines: all steps were looked at. -/
import Derived.Test.YtfkblhlkeglilaaMd
namespace Go.Proofs.Ytfkblhlkeglilaa
open Mt

set_option maxRecDepth 100000
theorem vs_0_0 : stc (Int.negSucc 7) (Int.negSucc 7) 17 (Int.negSucc 7) = true := by
  repeat refine k1 (by decide +kernel) ?_
  exact k0
theorem vs_0_1 : stc (Int.negSucc 7) (Int.negSucc 6) 17 (Int.negSucc 7) = true := by
  repeat refine k1 (by decide +kernel) ?_
  exact k0
theorem vs_0_2 : stc (Int.negSucc 7) (Int.negSucc 5) 17 (Int.negSucc 7) = true := by
  repeat refine k1 (by decide +kernel) ?_
  exact k0
theorem vs_0_3 : stc (Int.negSucc 7) (Int.negSucc 4) 17 (Int.negSucc 7) = true := by
  repeat refine k1 (by decide +kernel) ?_
  exact k0
theorem vs_0_4 : stc (Int.negSucc 7) (Int.negSucc 3) 17 (Int.negSucc 7) = true := by
  repeat refine k1 (by decide +kernel) ?_
  exact k0
theorem vs_0_5 : stc (Int.negSucc 7) (Int.negSucc 2) 17 (Int.negSucc 7) = true := by
  repeat refine k1 (by decide +kernel) ?_
  exact k0
theorem vs_0_6 : stc (Int.negSucc 7) (Int.negSucc 1) 17 (Int.negSucc 7) = true := by
  repeat refine k1 (by decide +kernel) ?_
  exact k0
end Go.Proofs.Ytfkblhlkeglilaa
