/- Walks: Chol. Printed by gen.py. -/
import Derived.Test.YtacjcomjnabmhaaWSolve
import Derived.Test.YtacjcomjnabmhaaChol
import Derived.KernelRfl
namespace Go.Proofs.Ytacjcomjnabmhaa
open Go.RowKit
set_option linter.unusedVariables false
set_option linter.unusedSimpArgs false
set_option maxRecDepth 20000

theorem ext228_Chol : ExtF Try.prog 228 Extern.MathSqrt.sqrt := ⟨_, Try.func228, by kernel_rfl, by kernel_rfl, by kernel_rfl, by kernel_rfl⟩
theorem known218_Chol : Known Try.prog 218 := Known.mk' Try.func218 (by kernel_rfl)
theorem known196_Chol : Known Try.prog 196 := Known.mk' Try.func196 (by kernel_rfl)

theorem c_Sqrt {w : World} (x : Nat) : Pure Try.prog 218 [.float .f64 x] w (.float .f64 (fsqrt x)) := by
  refine Pure.enter Try.func218 rfl Try.ntmps218 (Nat.le_of_ble_eq_true rfl) ?_
  refine V.seq ?_
  refine V.region ?_
  refine VL.r (.inl rfl) rfl (by decide) (yr_assign (u := .float .f64 0) rfl rfl) ?_
  refine VL.nil ?_
  refine VE.then_wp ?_
  refine V.seq ?_
  refine V.region ?_
  refine VL.r (.inl rfl) rfl (by decide) (yr_move rfl rfl) ?_
  refine VL.q (.inl rfl) rfl (by decide) (yq_ext rfl ext228_Chol (.cons rfl .nil) (fun vs w h => ext_sqrt vs w h)) ?_
  refine VL.r (.inl rfl) rfl (by decide) (yr_assign rfl rfl) ?_
  refine VL.nil ?_
  refine VE.then_wp ?_
  refine V.ret ?_
  refine ret1 rfl rfl (fun w1 hw => ?_)
  exact ⟨rfl, hw.below⟩

theorem c_RootNumber {w : World} (x : Nat) : Pure Try.prog 187 [.float .f32 x] w (.float .f32 (sqrt32 x)) := by
  refine Pure.enter Try.func187 rfl Try.ntmps187 (Nat.le_of_ble_eq_true rfl) ?_
  refine V.seq ?_
  refine V.region ?_
  refine VL.r (.inl rfl) rfl (by decide) (yr_assign (u := .float .f32 0) rfl rfl) ?_
  refine VL.nil ?_
  refine VE.then_wp ?_
  refine V.seq ?_
  refine V.region ?_
  refine VL.r (.inl rfl) rfl (by decide) (yr_move rfl rfl) ?_
  refine VL.r (.inl rfl) rfl (by decide) (yr_fconv rfl Try.underlying22 Try.underlying87 (by decide) rfl (fover_up _)) ?_
  refine VL.q (.inl rfl) rfl (by decide) (yq_callf rfl known218_Chol (.cons rfl .nil) (fun w hw => c_Sqrt _)) ?_
  refine VL.r (.inl rfl) rfl (by decide) (yr_fconv rfl Try.underlying87 Try.underlying22 (by decide) rfl (fover_sqrt _)) ?_
  refine VL.r (.inl rfl) rfl (by decide) (yr_assign rfl rfl) ?_
  refine VL.nil ?_
  refine VE.then_wp ?_
  refine V.ret ?_
  refine ret1 rfl rfl (fun w1 hw => ?_)
  exact ⟨rfl, hw.below⟩

theorem c_l01Narrow {w : World} {x : Nat} (hx : fover .f64 .f32 x = false) : Pure Try.prog 196 [.float .f64 x] w (.float .f32 (fconv .f64 .f32 x)) := by
  refine Pure.enter Try.func196 rfl Try.ntmps196 (Nat.le_of_ble_eq_true rfl) ?_
  refine V.seq ?_
  refine V.region ?_
  refine VL.r (.inl rfl) rfl (by decide) (yr_assign (u := .float .f32 0) rfl rfl) ?_
  refine VL.nil ?_
  refine VE.then_wp ?_
  refine V.seq ?_
  refine V.region ?_
  refine VL.r (.inl rfl) rfl (by decide) (yr_move rfl rfl) ?_
  refine VL.r (.inl rfl) rfl (by decide) (yr_fconv rfl Try.underlying87 Try.underlying22 (by decide) rfl hx) ?_
  refine VL.r (.inl rfl) rfl (by decide) (yr_assign rfl rfl) ?_
  refine VL.nil ?_
  refine VE.then_wp ?_
  refine V.ret ?_
  refine ret1 rfl rfl (fun w1 hw => ?_)
  exact ⟨rfl, hw.below⟩

theorem c_l01Sqrt {w : World} (x : Nat) : Pure Try.prog 182 [.float .f32 x] w (.float .f32 (sqrt32 x)) := by
  refine Pure.enter Try.func182 rfl Try.ntmps182 (Nat.le_of_ble_eq_true rfl) ?_
  refine V.seq ?_
  refine V.region ?_
  refine VL.r (.inl rfl) rfl (by decide) (yr_assign (u := .float .f32 0) rfl rfl) ?_
  refine VL.nil ?_
  refine VE.then_wp ?_
  refine V.seq ?_
  refine V.region ?_
  refine VL.r (.inl rfl) rfl (by decide) (yr_move rfl rfl) ?_
  refine VL.r (.inl rfl) rfl (by decide) (yr_fconv rfl Try.underlying22 Try.underlying87 (by decide) rfl (fover_up _)) ?_
  refine VL.q (.inl rfl) rfl (by decide) (yq_callf rfl known218_Chol (.cons rfl .nil) (fun w hw => c_Sqrt _)) ?_
  refine VL.q (.inl rfl) rfl (by decide) (yq_callf rfl known196_Chol (.cons rfl .nil) (fun w hw => c_l01Narrow (fover_sqrt _))) ?_
  refine VL.r (.inl rfl) rfl (by decide) (yr_assign rfl rfl) ?_
  refine VL.nil ?_
  refine VE.then_wp ?_
  refine V.ret ?_
  refine ret1 rfl rfl (fun w1 hw => ?_)
  exact ⟨rfl, hw.below⟩

end Go.Proofs.Ytacjcomjnabmhaa
