/- Squares near the plane of the ring: the field is not zero there. -/
import Derived.Test.YtfkblhlkeglilaaMd
namespace Go.Proofs.Ytfkblhlkeglilaa
open Mt

set_option maxRecDepth 100000
theorem vq_1_1 : slq (Int.ofNat 0) (Int.negSucc 7) = true := by decide +kernel
theorem vq_1_2 : slq (Int.ofNat 0) (Int.negSucc 5) = true := by decide +kernel
theorem vq_1_3 : slq (Int.ofNat 0) (Int.negSucc 3) = true := by decide +kernel
theorem vq_1_4 : slq (Int.ofNat 0) (Int.negSucc 1) = true := by decide +kernel
theorem vq_1_5 : slq (Int.ofNat 0) (Int.ofNat 0) = true := by decide +kernel
theorem vq_1_6 : slq (Int.ofNat 0) (Int.ofNat 2) = true := by decide +kernel
theorem vq_1_7 : slq (Int.ofNat 0) (Int.ofNat 4) = true := by decide +kernel
theorem vq_1_8 : slq (Int.ofNat 0) (Int.ofNat 6) = true := by decide +kernel
theorem vq_1_9 : slq (Int.ofNat 0) (Int.ofNat 8) = true := by decide +kernel
theorem vq_1_10 : slq (Int.ofNat 0) (Int.ofNat 10) = true := by decide +kernel
theorem vq_2_0 : slq (Int.ofNat 2) (Int.negSucc 9) = true := by decide +kernel
theorem vq_2_1 : slq (Int.ofNat 2) (Int.negSucc 7) = true := by decide +kernel
theorem vq_2_2 : slq (Int.ofNat 2) (Int.negSucc 5) = true := by decide +kernel
theorem vq_2_3 : slq (Int.ofNat 2) (Int.negSucc 3) = true := by decide +kernel
end Go.Proofs.Ytfkblhlkeglilaa
