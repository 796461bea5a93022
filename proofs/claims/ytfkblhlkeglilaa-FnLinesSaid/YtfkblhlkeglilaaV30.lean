/- Squares near the plane of the ring: the field is not zero there. -/
import Derived.Test.YtfkblhlkeglilaaMd
namespace Go.Proofs.Ytfkblhlkeglilaa
open Mt

set_option maxRecDepth 100000
theorem vq_0_0 : slq (Int.negSucc 1) (Int.negSucc 9) = true := by decide +kernel
theorem vq_0_1 : slq (Int.negSucc 1) (Int.negSucc 7) = true := by decide +kernel
theorem vq_0_2 : slq (Int.negSucc 1) (Int.negSucc 5) = true := by decide +kernel
theorem vq_0_3 : slq (Int.negSucc 1) (Int.negSucc 3) = true := by decide +kernel
theorem vq_0_4 : slq (Int.negSucc 1) (Int.negSucc 1) = true := by decide +kernel
theorem vq_0_5 : slq (Int.negSucc 1) (Int.ofNat 0) = true := by decide +kernel
theorem vq_0_6 : slq (Int.negSucc 1) (Int.ofNat 2) = true := by decide +kernel
theorem vq_0_7 : slq (Int.negSucc 1) (Int.ofNat 4) = true := by decide +kernel
theorem vq_0_8 : slq (Int.negSucc 1) (Int.ofNat 6) = true := by decide +kernel
theorem vq_0_9 : slq (Int.negSucc 1) (Int.ofNat 8) = true := by decide +kernel
theorem vq_0_10 : slq (Int.negSucc 1) (Int.ofNat 10) = true := by decide +kernel
theorem vq_1_0 : slq (Int.ofNat 0) (Int.negSucc 9) = true := by decide +kernel
end Go.Proofs.Ytfkblhlkeglilaa
