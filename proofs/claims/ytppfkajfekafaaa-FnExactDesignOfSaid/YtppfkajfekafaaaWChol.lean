/- Walks: Chol. Printed by gen.py. -/
import Derived.Test.YtppfkajfekafaaaWSolve
import Derived.Test.YtppfkajfekafaaaChol
import Derived.KernelRfl
namespace Go.Proofs.Ytppfkajfekafaaa
open Go.RowKit
set_option linter.unusedVariables false
set_option linter.unusedSimpArgs false
set_option maxRecDepth 20000

theorem ext211_Chol : ExtF Try.prog 211 Extern.MathSqrt.sqrt := ⟨_, Try.func211, by kernel_rfl, by kernel_rfl, by kernel_rfl, by kernel_rfl⟩
theorem known202_Chol : Known Try.prog 202 := Known.mk' Try.func202 (by kernel_rfl)
theorem known201_Chol : Known Try.prog 201 := Known.mk' Try.func201 (by kernel_rfl)

theorem c_Sqrt {w : World} (x : Nat) : Pure Try.prog 202 [.float .f64 x] w (.float .f64 (fsqrt x)) := by
  refine Pure.enter Try.func202 rfl Try.ntmps202 (Nat.le_of_ble_eq_true rfl) ?_
  refine V.seq ?_
  refine V.region ?_
  refine VL.r (.inl rfl) rfl (by decide) (yr_assign (u := .float .f64 0) rfl rfl) ?_
  refine VL.nil ?_
  refine VE.then_wp ?_
  refine V.seq ?_
  refine V.region ?_
  refine VL.r (.inl rfl) rfl (by decide) (yr_move rfl rfl) ?_
  refine VL.q (.inl rfl) rfl (by decide) (yq_ext rfl ext211_Chol (.cons rfl .nil) (fun vs w h => ext_sqrt vs w h)) ?_
  refine VL.r (.inl rfl) rfl (by decide) (yr_assign rfl rfl) ?_
  refine VL.nil ?_
  refine VE.then_wp ?_
  refine V.ret ?_
  refine ret1 rfl rfl (fun w1 hw => ?_)
  exact ⟨rfl, hw.below⟩

theorem c_RootNumber {w : World} (x : Nat) : Pure Try.prog 180 [.float .f32 x] w (.float .f32 (sqrt32 x)) := by
  refine Pure.enter Try.func180 rfl Try.ntmps180 (Nat.le_of_ble_eq_true rfl) ?_
  refine V.seq ?_
  refine V.region ?_
  refine VL.r (.inl rfl) rfl (by decide) (yr_assign (u := .float .f32 0) rfl rfl) ?_
  refine VL.nil ?_
  refine VE.then_wp ?_
  refine V.seq ?_
  refine V.region ?_
  refine VL.r (.inl rfl) rfl (by decide) (yr_move rfl rfl) ?_
  refine VL.r (.inl rfl) rfl (by decide) (yr_fconv rfl Try.underlying43 Try.underlying56 (by decide) rfl (fover_up _)) ?_
  refine VL.q (.inl rfl) rfl (by decide) (yq_callf rfl known202_Chol (.cons rfl .nil) (fun w hw => c_Sqrt _)) ?_
  refine VL.r (.inl rfl) rfl (by decide) (yr_fconv rfl Try.underlying56 Try.underlying43 (by decide) rfl (fover_sqrt _)) ?_
  refine VL.r (.inl rfl) rfl (by decide) (yr_assign rfl rfl) ?_
  refine VL.nil ?_
  refine VE.then_wp ?_
  refine V.ret ?_
  refine ret1 rfl rfl (fun w1 hw => ?_)
  exact ⟨rfl, hw.below⟩

theorem c_l01Narrow {w : World} {x : Nat} (hx : fover .f64 .f32 x = false) : Pure Try.prog 201 [.float .f64 x] w (.float .f32 (fconv .f64 .f32 x)) := by
  refine Pure.enter Try.func201 rfl Try.ntmps201 (Nat.le_of_ble_eq_true rfl) ?_
  refine V.seq ?_
  refine V.region ?_
  refine VL.r (.inl rfl) rfl (by decide) (yr_assign (u := .float .f32 0) rfl rfl) ?_
  refine VL.nil ?_
  refine VE.then_wp ?_
  refine V.seq ?_
  refine V.region ?_
  refine VL.r (.inl rfl) rfl (by decide) (yr_move rfl rfl) ?_
  refine VL.r (.inl rfl) rfl (by decide) (yr_fconv rfl Try.underlying56 Try.underlying43 (by decide) rfl hx) ?_
  refine VL.r (.inl rfl) rfl (by decide) (yr_assign rfl rfl) ?_
  refine VL.nil ?_
  refine VE.then_wp ?_
  refine V.ret ?_
  refine ret1 rfl rfl (fun w1 hw => ?_)
  exact ⟨rfl, hw.below⟩

theorem c_l01Sqrt {w : World} (x : Nat) : Pure Try.prog 175 [.float .f32 x] w (.float .f32 (sqrt32 x)) := by
  refine Pure.enter Try.func175 rfl Try.ntmps175 (Nat.le_of_ble_eq_true rfl) ?_
  refine V.seq ?_
  refine V.region ?_
  refine VL.r (.inl rfl) rfl (by decide) (yr_assign (u := .float .f32 0) rfl rfl) ?_
  refine VL.nil ?_
  refine VE.then_wp ?_
  refine V.seq ?_
  refine V.region ?_
  refine VL.r (.inl rfl) rfl (by decide) (yr_move rfl rfl) ?_
  refine VL.r (.inl rfl) rfl (by decide) (yr_fconv rfl Try.underlying43 Try.underlying56 (by decide) rfl (fover_up _)) ?_
  refine VL.q (.inl rfl) rfl (by decide) (yq_callf rfl known202_Chol (.cons rfl .nil) (fun w hw => c_Sqrt _)) ?_
  refine VL.q (.inl rfl) rfl (by decide) (yq_callf rfl known201_Chol (.cons rfl .nil) (fun w hw => c_l01Narrow (fover_sqrt _))) ?_
  refine VL.r (.inl rfl) rfl (by decide) (yr_assign rfl rfl) ?_
  refine VL.nil ?_
  refine VE.then_wp ?_
  refine V.ret ?_
  refine ret1 rfl rfl (fun w1 hw => ?_)
  exact ⟨rfl, hw.below⟩

end Go.Proofs.Ytppfkajfekafaaa
