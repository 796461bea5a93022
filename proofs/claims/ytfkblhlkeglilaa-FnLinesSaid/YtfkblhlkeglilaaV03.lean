/- Starts of lines: all steps were looked at. -/
import Derived.Test.YtfkblhlkeglilaaMd
namespace Go.Proofs.Ytfkblhlkeglilaa
open Mt

set_option maxRecDepth 100000
theorem vs_0_13 : stc (Int.negSucc 7) (Int.ofNat 5) 17 (Int.negSucc 7) = true := by
  repeat refine k1 (by decide +kernel) ?_
  exact k0
theorem vs_0_14 : stc (Int.negSucc 7) (Int.ofNat 6) 17 (Int.negSucc 7) = true := by
  repeat refine k1 (by decide +kernel) ?_
  exact k0
theorem vs_0_15 : stc (Int.negSucc 7) (Int.ofNat 7) 17 (Int.negSucc 7) = true := by
  repeat refine k1 (by decide +kernel) ?_
  exact k0
theorem vs_0_16 : stc (Int.negSucc 7) (Int.ofNat 8) 17 (Int.negSucc 7) = true := by
  repeat refine k1 (by decide +kernel) ?_
  exact k0
theorem vs_1_0 : stc (Int.negSucc 6) (Int.negSucc 7) 17 (Int.negSucc 7) = true := by
  repeat refine k1 (by decide +kernel) ?_
  exact k0
theorem vs_1_1 : stc (Int.negSucc 6) (Int.negSucc 6) 17 (Int.negSucc 7) = true := by
  repeat refine k1 (by decide +kernel) ?_
  exact k0
theorem vs_1_2 : stc (Int.negSucc 6) (Int.negSucc 5) 17 (Int.negSucc 7) = true := by
  repeat refine k1 (by decide +kernel) ?_
  exact k0
theorem vs_1_3 : stc (Int.negSucc 6) (Int.negSucc 4) 17 (Int.negSucc 7) = true := by
  repeat refine k1 (by decide +kernel) ?_
  exact k0
theorem vs_1_4 : stc (Int.negSucc 6) (Int.negSucc 3) 17 (Int.negSucc 7) = true := by
  repeat refine k1 (by decide +kernel) ?_
  exact k0
end Go.Proofs.Ytfkblhlkeglilaa
