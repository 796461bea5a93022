/- Squares near the plane of the ring: the field is not zero there. -/
import Derived.Test.YtfkblhlkeglilaaMd
namespace Go.Proofs.Ytfkblhlkeglilaa
open Mt

set_option maxRecDepth 100000
theorem vq_9_0 : slq (Int.ofNat 16) (Int.negSucc 9) = true := kq (by decide +kernel)
theorem vq_9_1 : slq (Int.ofNat 16) (Int.negSucc 7) = true := kq (by decide +kernel)
theorem vq_9_2 : slq (Int.ofNat 16) (Int.negSucc 5) = true := kq (by decide +kernel)
theorem vq_9_3 : slq (Int.ofNat 16) (Int.negSucc 3) = true := kq (by decide +kernel)
theorem vq_9_4 : slq (Int.ofNat 16) (Int.negSucc 1) = true := kq (by decide +kernel)
theorem vq_9_5 : slq (Int.ofNat 16) (Int.ofNat 0) = true := kq (by decide +kernel)
theorem vq_9_6 : slq (Int.ofNat 16) (Int.ofNat 2) = true := kq (by decide +kernel)
theorem vq_9_7 : slq (Int.ofNat 16) (Int.ofNat 4) = true := kq (by decide +kernel)
theorem vq_9_8 : slq (Int.ofNat 16) (Int.ofNat 6) = true := kq (by decide +kernel)
theorem vq_9_9 : slq (Int.ofNat 16) (Int.ofNat 8) = true := kq (by decide +kernel)
theorem vq_9_10 : slq (Int.ofNat 16) (Int.ofNat 10) = true := kq (by decide +kernel)
theorem vq_10_0 : slq (Int.ofNat 18) (Int.negSucc 9) = true := kq (by decide +kernel)
theorem vq_10_1 : slq (Int.ofNat 18) (Int.negSucc 7) = true := kq (by decide +kernel)
theorem vq_10_2 : slq (Int.ofNat 18) (Int.negSucc 5) = true := kq (by decide +kernel)
theorem vq_10_3 : slq (Int.ofNat 18) (Int.negSucc 3) = true := kq (by decide +kernel)
theorem vq_10_4 : slq (Int.ofNat 18) (Int.negSucc 1) = true := kq (by decide +kernel)
theorem vq_10_5 : slq (Int.ofNat 18) (Int.ofNat 0) = true := kq (by decide +kernel)
theorem vq_10_6 : slq (Int.ofNat 18) (Int.ofNat 2) = true := kq (by decide +kernel)
theorem vq_10_7 : slq (Int.ofNat 18) (Int.ofNat 4) = true := kq (by decide +kernel)
theorem vq_10_8 : slq (Int.ofNat 18) (Int.ofNat 6) = true := kq (by decide +kernel)
theorem vq_10_9 : slq (Int.ofNat 18) (Int.ofNat 8) = true := kq (by decide +kernel)
theorem vq_10_10 : slq (Int.ofNat 18) (Int.ofNat 10) = true := kq (by decide +kernel)
end Go.Proofs.Ytfkblhlkeglilaa
