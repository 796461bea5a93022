/- Walks: Vec. Printed by gen.py. -/
import Derived.Test.YtacjcomjnabmhaaWChol
import Derived.Test.YtacjcomjnabmhaaWIn
import Derived.Test.YtacjcomjnabmhaaNest
import Derived.Test.YtacjcomjnabmhaaVec
import Derived.KernelRfl
namespace Go.Proofs.Ytacjcomjnabmhaa
open Go.RowKit
set_option linter.unusedVariables false
set_option linter.unusedSimpArgs false
set_option maxRecDepth 20000

theorem zero32_Vec : (Try.prog.info? 32).bind (·.zero) = some (Value.agg #[Value.float .f32 0, Value.float .f32 0, Value.float .f32 0]) := by kernel_rfl
theorem sz22_Vec : (Try.prog.info? 22).map (·.size) = some 1 := by kernel_rfl
theorem fb22_Vec : flatB Try.prog 22 = true := by kernel_rfl
theorem lay32_Vec : Lay Try.prog 32 [Value.float .f32 0, Value.float .f32 0, Value.float .f32 0] [(0, 1), (1, 1), (2, 1)] := Lay.mk' (by kernel_rfl) (by kernel_rfl)
theorem sz32_Vec : (Try.prog.info? 32).map (·.size) = some 3 := by kernel_rfl
theorem known188_Vec : Known Try.prog 188 := Known.mk' Try.func188 (by kernel_rfl)
theorem known187_Vec : Known Try.prog 187 := Known.mk' Try.func187 (by kernel_rfl)
theorem known183_Vec : Known Try.prog 183 := Known.mk' Try.func183 (by kernel_rfl)
theorem known182_Vec : Known Try.prog 182 := Known.mk' Try.func182 (by kernel_rfl)
theorem known150_Vec : Known Try.prog 150 := Known.mk' Try.func150 (by kernel_rfl)
theorem known64_Vec : Known Try.prog 64 := Known.mk' Try.func64 (by kernel_rfl)
theorem mixed_Vec : Try.prog.follows .mixedOrders = true := by kernel_rfl
theorem known138_Vec : Known Try.prog 138 := Known.mk' Try.func138 (by kernel_rfl)
theorem known137_Vec : Known Try.prog 137 := Known.mk' Try.func137 (by kernel_rfl)
theorem known227_Vec : Known Try.prog 227 := Known.mk' Try.func227 (by kernel_rfl)
theorem known217_Vec : Known Try.prog 217 := Known.mk' Try.func217 (by kernel_rfl)
theorem known132_Vec : Known Try.prog 132 := Known.mk' Try.func132 (by kernel_rfl)
theorem known131_Vec : Known Try.prog 131 := Known.mk' Try.func131 (by kernel_rfl)
theorem known226_Vec : Known Try.prog 226 := Known.mk' Try.func226 (by kernel_rfl)
theorem known214_Vec : Known Try.prog 214 := Known.mk' Try.func214 (by kernel_rfl)
theorem known143_Vec : Known Try.prog 143 := Known.mk' Try.func143 (by kernel_rfl)
theorem known179_Vec : Known Try.prog 179 := Known.mk' Try.func179 (by kernel_rfl)
attribute [local irreducible] fop fcmp fconv sqrt32 fneg

theorem c_add3 {w : World} {x1 x2 x3 y1 y2 y3 : Nat} : Pure Try.prog 143 [vv (x1, x2, x3), vv (y1, y2, y3)] w (vv (add3 (x1, x2, x3) (y1, y2, y3))) := by
  refine Pure.enter Try.func143 rfl Try.ntmps143 (Nat.le_of_ble_eq_true rfl) ?_
  refine V.seq ?_
  refine V.region ?_
  refine VL.new1 (.inl rfl) rfl (by decide) (yn_box rfl rfl (.inr ⟨rfl, rfl⟩)) ?_
  intro b2
  refine VL.new1 (.inl rfl) rfl (by decide) (yn_box rfl rfl (.inr ⟨rfl, rfl⟩)) ?_
  intro b3
  refine VL.new1 (.inl rfl) rfl (by decide) (yn_alloc rfl zero32_Vec rfl) ?_
  intro b4
  refine VL.nil ?_
  refine VE.then_wp ?_
  refine V.seq ?_
  refine V.region ?_
  refine VL.r (.inl rfl) rfl (by decide) (yr_fieldAddr rfl Try.underlying32 rfl rfl sz22_Vec (by decide) rfl) ?_
  refine VL.q (.inl rfl) rfl (by decide) (yq_load rfl fb22_Vec rfl (by first | exact Sees.root (by assumption) | exact Sees.own (by repeat (first | exact List.mem_cons_self | exact List.mem_append_left _ (by assumption) | apply List.mem_cons_of_mem | apply List.mem_append_right)) | exact Sees.root (hR _ (by omega)) | exact Sees.own (RowsIn.mem (by repeat (first | exact RowsIn.here | exact RowsIn.last | apply RowsIn.there | apply RowsIn.thereS)) _ (by omega)) | exact Sees.own (WRowsIn.mem (by repeat (first | exact WRowsIn.here | exact WRowsIn.last | apply WRowsIn.there | apply WRowsIn.thereS)) _ (by omega))) rfl) ?_
  refine VL.r (.inl rfl) rfl (by decide) (yr_fieldAddr rfl Try.underlying32 rfl rfl sz22_Vec (by decide) rfl) ?_
  refine VL.q (.inl rfl) rfl (by decide) (yq_load rfl fb22_Vec rfl (by first | exact Sees.root (by assumption) | exact Sees.own (by repeat (first | exact List.mem_cons_self | exact List.mem_append_left _ (by assumption) | apply List.mem_cons_of_mem | apply List.mem_append_right)) | exact Sees.root (hR _ (by omega)) | exact Sees.own (RowsIn.mem (by repeat (first | exact RowsIn.here | exact RowsIn.last | apply RowsIn.there | apply RowsIn.thereS)) _ (by omega)) | exact Sees.own (WRowsIn.mem (by repeat (first | exact WRowsIn.here | exact WRowsIn.last | apply WRowsIn.there | apply WRowsIn.thereS)) _ (by omega))) rfl) ?_
  refine VL.r (.inl rfl) rfl (by decide) (yr_float rfl (.inl rfl) rfl rfl) ?_
  refine VL.r (.inl rfl) rfl (by decide) (yr_fieldAddr rfl Try.underlying32 rfl rfl sz22_Vec (by decide) rfl) ?_
  refine VL.q (.inl rfl) rfl (by decide) (yq_load rfl fb22_Vec rfl (by first | exact Sees.root (by assumption) | exact Sees.own (by repeat (first | exact List.mem_cons_self | exact List.mem_append_left _ (by assumption) | apply List.mem_cons_of_mem | apply List.mem_append_right)) | exact Sees.root (hR _ (by omega)) | exact Sees.own (RowsIn.mem (by repeat (first | exact RowsIn.here | exact RowsIn.last | apply RowsIn.there | apply RowsIn.thereS)) _ (by omega)) | exact Sees.own (WRowsIn.mem (by repeat (first | exact WRowsIn.here | exact WRowsIn.last | apply WRowsIn.there | apply WRowsIn.thereS)) _ (by omega))) rfl) ?_
  refine VL.r (.inl rfl) rfl (by decide) (yr_fieldAddr rfl Try.underlying32 rfl rfl sz22_Vec (by decide) rfl) ?_
  refine VL.q (.inl rfl) rfl (by decide) (yq_load rfl fb22_Vec rfl (by first | exact Sees.root (by assumption) | exact Sees.own (by repeat (first | exact List.mem_cons_self | exact List.mem_append_left _ (by assumption) | apply List.mem_cons_of_mem | apply List.mem_append_right)) | exact Sees.root (hR _ (by omega)) | exact Sees.own (RowsIn.mem (by repeat (first | exact RowsIn.here | exact RowsIn.last | apply RowsIn.there | apply RowsIn.thereS)) _ (by omega)) | exact Sees.own (WRowsIn.mem (by repeat (first | exact WRowsIn.here | exact WRowsIn.last | apply WRowsIn.there | apply WRowsIn.thereS)) _ (by omega))) rfl) ?_
  refine VL.r (.inl rfl) rfl (by decide) (yr_float rfl (.inl rfl) rfl rfl) ?_
  refine VL.r (.inl rfl) rfl (by decide) (yr_fieldAddr rfl Try.underlying32 rfl rfl sz22_Vec (by decide) rfl) ?_
  refine VL.q (.inl rfl) rfl (by decide) (yq_load rfl fb22_Vec rfl (by first | exact Sees.root (by assumption) | exact Sees.own (by repeat (first | exact List.mem_cons_self | exact List.mem_append_left _ (by assumption) | apply List.mem_cons_of_mem | apply List.mem_append_right)) | exact Sees.root (hR _ (by omega)) | exact Sees.own (RowsIn.mem (by repeat (first | exact RowsIn.here | exact RowsIn.last | apply RowsIn.there | apply RowsIn.thereS)) _ (by omega)) | exact Sees.own (WRowsIn.mem (by repeat (first | exact WRowsIn.here | exact WRowsIn.last | apply WRowsIn.there | apply WRowsIn.thereS)) _ (by omega))) rfl) ?_
  refine VL.r (.inl rfl) rfl (by decide) (yr_fieldAddr rfl Try.underlying32 rfl rfl sz22_Vec (by decide) rfl) ?_
  refine VL.q (.inl rfl) rfl (by decide) (yq_load rfl fb22_Vec rfl (by first | exact Sees.root (by assumption) | exact Sees.own (by repeat (first | exact List.mem_cons_self | exact List.mem_append_left _ (by assumption) | apply List.mem_cons_of_mem | apply List.mem_append_right)) | exact Sees.root (hR _ (by omega)) | exact Sees.own (RowsIn.mem (by repeat (first | exact RowsIn.here | exact RowsIn.last | apply RowsIn.there | apply RowsIn.thereS)) _ (by omega)) | exact Sees.own (WRowsIn.mem (by repeat (first | exact WRowsIn.here | exact WRowsIn.last | apply WRowsIn.there | apply WRowsIn.thereS)) _ (by omega))) rfl) ?_
  refine VL.r (.inl rfl) rfl (by decide) (yr_float rfl (.inl rfl) rfl rfl) ?_
  refine VL.r (.inl rfl) rfl (by decide) (yr_build rfl lay32_Vec rfl (.cons rfl (.cons rfl (.cons rfl .nil))) (by first | (simp; done) | (simp [vv]; done) | (simp [cn, cn1, cn0]; done)) rfl) ?_
  refine VL.s (.inl rfl) rfl (yc_store rfl sz32_Vec rfl rfl (by repeat (first | exact UpdF.here | apply UpdF.there | apply UpdF.thereS)) (.inr ⟨rfl, rfl⟩) rfl (by first | exact Nat.le_of_ble_eq_true rfl | simp) (by decide) rfl) ?_
  rintro ⟨⟩
  refine VL.nil ?_
  refine VE.then_wp ?_
  refine V.ret ?_
  refine retC rfl (rv_cellS rfl Try.underlying32 sz32_Vec (by first | exact Sees.root (by assumption) | exact Sees.own (by repeat (first | exact List.mem_cons_self | exact List.mem_append_left _ (by assumption) | apply List.mem_cons_of_mem | apply List.mem_append_right)) | exact Sees.root (hR _ (by omega)) | exact Sees.own (RowsIn.mem (by repeat (first | exact RowsIn.here | exact RowsIn.last | apply RowsIn.there | apply RowsIn.thereS)) _ (by omega)) | exact Sees.own (WRowsIn.mem (by repeat (first | exact WRowsIn.here | exact WRowsIn.last | apply WRowsIn.there | apply WRowsIn.thereS)) _ (by omega))) rfl rfl rfl) (by nofun) (fun w1 hw => ?_)
  exact ⟨rfl, hw.below⟩

theorem c_add3S {w : World} {x1 x2 x3 y1 y2 y3 : Nat} : Pure Try.prog 179 [vv (x1, x2, x3), vv (y1, y2, y3)] w (vv (add3 (x1, x2, x3) (y1, y2, y3))) := by
  refine Pure.enter Try.func179 rfl Try.ntmps179 (Nat.le_of_ble_eq_true rfl) ?_
  refine V.seq ?_
  refine V.region ?_
  refine VL.new1 (.inl rfl) rfl (by decide) (yn_box rfl rfl (.inr ⟨rfl, rfl⟩)) ?_
  intro b2
  refine VL.new1 (.inl rfl) rfl (by decide) (yn_box rfl rfl (.inr ⟨rfl, rfl⟩)) ?_
  intro b3
  refine VL.new1 (.inl rfl) rfl (by decide) (yn_alloc rfl zero32_Vec rfl) ?_
  intro b4
  refine VL.nil ?_
  refine VE.then_wp ?_
  refine V.seq ?_
  refine V.region ?_
  refine VL.r (.inl rfl) rfl (by decide) (yr_fieldAddr rfl Try.underlying32 rfl rfl sz22_Vec (by decide) rfl) ?_
  refine VL.q (.inl rfl) rfl (by decide) (yq_load rfl fb22_Vec rfl (by first | exact Sees.root (by assumption) | exact Sees.own (by repeat (first | exact List.mem_cons_self | exact List.mem_append_left _ (by assumption) | apply List.mem_cons_of_mem | apply List.mem_append_right)) | exact Sees.root (hR _ (by omega)) | exact Sees.own (RowsIn.mem (by repeat (first | exact RowsIn.here | exact RowsIn.last | apply RowsIn.there | apply RowsIn.thereS)) _ (by omega)) | exact Sees.own (WRowsIn.mem (by repeat (first | exact WRowsIn.here | exact WRowsIn.last | apply WRowsIn.there | apply WRowsIn.thereS)) _ (by omega))) rfl) ?_
  refine VL.r (.inl rfl) rfl (by decide) (yr_fieldAddr rfl Try.underlying32 rfl rfl sz22_Vec (by decide) rfl) ?_
  refine VL.q (.inl rfl) rfl (by decide) (yq_load rfl fb22_Vec rfl (by first | exact Sees.root (by assumption) | exact Sees.own (by repeat (first | exact List.mem_cons_self | exact List.mem_append_left _ (by assumption) | apply List.mem_cons_of_mem | apply List.mem_append_right)) | exact Sees.root (hR _ (by omega)) | exact Sees.own (RowsIn.mem (by repeat (first | exact RowsIn.here | exact RowsIn.last | apply RowsIn.there | apply RowsIn.thereS)) _ (by omega)) | exact Sees.own (WRowsIn.mem (by repeat (first | exact WRowsIn.here | exact WRowsIn.last | apply WRowsIn.there | apply WRowsIn.thereS)) _ (by omega))) rfl) ?_
  refine VL.r (.inl rfl) rfl (by decide) (yr_float rfl (.inl rfl) rfl rfl) ?_
  refine VL.r (.inl rfl) rfl (by decide) (yr_fieldAddr rfl Try.underlying32 rfl rfl sz22_Vec (by decide) rfl) ?_
  refine VL.q (.inl rfl) rfl (by decide) (yq_load rfl fb22_Vec rfl (by first | exact Sees.root (by assumption) | exact Sees.own (by repeat (first | exact List.mem_cons_self | exact List.mem_append_left _ (by assumption) | apply List.mem_cons_of_mem | apply List.mem_append_right)) | exact Sees.root (hR _ (by omega)) | exact Sees.own (RowsIn.mem (by repeat (first | exact RowsIn.here | exact RowsIn.last | apply RowsIn.there | apply RowsIn.thereS)) _ (by omega)) | exact Sees.own (WRowsIn.mem (by repeat (first | exact WRowsIn.here | exact WRowsIn.last | apply WRowsIn.there | apply WRowsIn.thereS)) _ (by omega))) rfl) ?_
  refine VL.r (.inl rfl) rfl (by decide) (yr_fieldAddr rfl Try.underlying32 rfl rfl sz22_Vec (by decide) rfl) ?_
  refine VL.q (.inl rfl) rfl (by decide) (yq_load rfl fb22_Vec rfl (by first | exact Sees.root (by assumption) | exact Sees.own (by repeat (first | exact List.mem_cons_self | exact List.mem_append_left _ (by assumption) | apply List.mem_cons_of_mem | apply List.mem_append_right)) | exact Sees.root (hR _ (by omega)) | exact Sees.own (RowsIn.mem (by repeat (first | exact RowsIn.here | exact RowsIn.last | apply RowsIn.there | apply RowsIn.thereS)) _ (by omega)) | exact Sees.own (WRowsIn.mem (by repeat (first | exact WRowsIn.here | exact WRowsIn.last | apply WRowsIn.there | apply WRowsIn.thereS)) _ (by omega))) rfl) ?_
  refine VL.r (.inl rfl) rfl (by decide) (yr_float rfl (.inl rfl) rfl rfl) ?_
  refine VL.r (.inl rfl) rfl (by decide) (yr_fieldAddr rfl Try.underlying32 rfl rfl sz22_Vec (by decide) rfl) ?_
  refine VL.q (.inl rfl) rfl (by decide) (yq_load rfl fb22_Vec rfl (by first | exact Sees.root (by assumption) | exact Sees.own (by repeat (first | exact List.mem_cons_self | exact List.mem_append_left _ (by assumption) | apply List.mem_cons_of_mem | apply List.mem_append_right)) | exact Sees.root (hR _ (by omega)) | exact Sees.own (RowsIn.mem (by repeat (first | exact RowsIn.here | exact RowsIn.last | apply RowsIn.there | apply RowsIn.thereS)) _ (by omega)) | exact Sees.own (WRowsIn.mem (by repeat (first | exact WRowsIn.here | exact WRowsIn.last | apply WRowsIn.there | apply WRowsIn.thereS)) _ (by omega))) rfl) ?_
  refine VL.r (.inl rfl) rfl (by decide) (yr_fieldAddr rfl Try.underlying32 rfl rfl sz22_Vec (by decide) rfl) ?_
  refine VL.q (.inl rfl) rfl (by decide) (yq_load rfl fb22_Vec rfl (by first | exact Sees.root (by assumption) | exact Sees.own (by repeat (first | exact List.mem_cons_self | exact List.mem_append_left _ (by assumption) | apply List.mem_cons_of_mem | apply List.mem_append_right)) | exact Sees.root (hR _ (by omega)) | exact Sees.own (RowsIn.mem (by repeat (first | exact RowsIn.here | exact RowsIn.last | apply RowsIn.there | apply RowsIn.thereS)) _ (by omega)) | exact Sees.own (WRowsIn.mem (by repeat (first | exact WRowsIn.here | exact WRowsIn.last | apply WRowsIn.there | apply WRowsIn.thereS)) _ (by omega))) rfl) ?_
  refine VL.r (.inl rfl) rfl (by decide) (yr_float rfl (.inl rfl) rfl rfl) ?_
  refine VL.r (.inl rfl) rfl (by decide) (yr_build rfl lay32_Vec rfl (.cons rfl (.cons rfl (.cons rfl .nil))) (by first | (simp; done) | (simp [vv]; done) | (simp [cn, cn1, cn0]; done)) rfl) ?_
  refine VL.s (.inl rfl) rfl (yc_store rfl sz32_Vec rfl rfl (by repeat (first | exact UpdF.here | apply UpdF.there | apply UpdF.thereS)) (.inr ⟨rfl, rfl⟩) rfl (by first | exact Nat.le_of_ble_eq_true rfl | simp) (by decide) rfl) ?_
  rintro ⟨⟩
  refine VL.nil ?_
  refine VE.then_wp ?_
  refine V.ret ?_
  refine retC rfl (rv_cellS rfl Try.underlying32 sz32_Vec (by first | exact Sees.root (by assumption) | exact Sees.own (by repeat (first | exact List.mem_cons_self | exact List.mem_append_left _ (by assumption) | apply List.mem_cons_of_mem | apply List.mem_append_right)) | exact Sees.root (hR _ (by omega)) | exact Sees.own (RowsIn.mem (by repeat (first | exact RowsIn.here | exact RowsIn.last | apply RowsIn.there | apply RowsIn.thereS)) _ (by omega)) | exact Sees.own (WRowsIn.mem (by repeat (first | exact WRowsIn.here | exact WRowsIn.last | apply WRowsIn.there | apply WRowsIn.thereS)) _ (by omega))) rfl rfl rfl) (by nofun) (fun w1 hw => ?_)
  exact ⟨rfl, hw.below⟩

theorem c_sub3 {w : World} {x1 x2 x3 y1 y2 y3 : Nat} : Pure Try.prog 138 [vv (x1, x2, x3), vv (y1, y2, y3)] w (vv (sub3 (x1, x2, x3) (y1, y2, y3))) := by
  refine Pure.enter Try.func138 rfl Try.ntmps138 (Nat.le_of_ble_eq_true rfl) ?_
  refine V.seq ?_
  refine V.region ?_
  refine VL.new1 (.inl rfl) rfl (by decide) (yn_box rfl rfl (.inr ⟨rfl, rfl⟩)) ?_
  intro b2
  refine VL.new1 (.inl rfl) rfl (by decide) (yn_box rfl rfl (.inr ⟨rfl, rfl⟩)) ?_
  intro b3
  refine VL.new1 (.inl rfl) rfl (by decide) (yn_alloc rfl zero32_Vec rfl) ?_
  intro b4
  refine VL.nil ?_
  refine VE.then_wp ?_
  refine V.seq ?_
  refine V.region ?_
  refine VL.r (.inl rfl) rfl (by decide) (yr_fieldAddr rfl Try.underlying32 rfl rfl sz22_Vec (by decide) rfl) ?_
  refine VL.q (.inl rfl) rfl (by decide) (yq_load rfl fb22_Vec rfl (by first | exact Sees.root (by assumption) | exact Sees.own (by repeat (first | exact List.mem_cons_self | exact List.mem_append_left _ (by assumption) | apply List.mem_cons_of_mem | apply List.mem_append_right)) | exact Sees.root (hR _ (by omega)) | exact Sees.own (RowsIn.mem (by repeat (first | exact RowsIn.here | exact RowsIn.last | apply RowsIn.there | apply RowsIn.thereS)) _ (by omega)) | exact Sees.own (WRowsIn.mem (by repeat (first | exact WRowsIn.here | exact WRowsIn.last | apply WRowsIn.there | apply WRowsIn.thereS)) _ (by omega))) rfl) ?_
  refine VL.r (.inl rfl) rfl (by decide) (yr_fieldAddr rfl Try.underlying32 rfl rfl sz22_Vec (by decide) rfl) ?_
  refine VL.q (.inl rfl) rfl (by decide) (yq_load rfl fb22_Vec rfl (by first | exact Sees.root (by assumption) | exact Sees.own (by repeat (first | exact List.mem_cons_self | exact List.mem_append_left _ (by assumption) | apply List.mem_cons_of_mem | apply List.mem_append_right)) | exact Sees.root (hR _ (by omega)) | exact Sees.own (RowsIn.mem (by repeat (first | exact RowsIn.here | exact RowsIn.last | apply RowsIn.there | apply RowsIn.thereS)) _ (by omega)) | exact Sees.own (WRowsIn.mem (by repeat (first | exact WRowsIn.here | exact WRowsIn.last | apply WRowsIn.there | apply WRowsIn.thereS)) _ (by omega))) rfl) ?_
  refine VL.r (.inl rfl) rfl (by decide) (yr_float rfl (.inr (.inl rfl)) rfl rfl) ?_
  refine VL.r (.inl rfl) rfl (by decide) (yr_fieldAddr rfl Try.underlying32 rfl rfl sz22_Vec (by decide) rfl) ?_
  refine VL.q (.inl rfl) rfl (by decide) (yq_load rfl fb22_Vec rfl (by first | exact Sees.root (by assumption) | exact Sees.own (by repeat (first | exact List.mem_cons_self | exact List.mem_append_left _ (by assumption) | apply List.mem_cons_of_mem | apply List.mem_append_right)) | exact Sees.root (hR _ (by omega)) | exact Sees.own (RowsIn.mem (by repeat (first | exact RowsIn.here | exact RowsIn.last | apply RowsIn.there | apply RowsIn.thereS)) _ (by omega)) | exact Sees.own (WRowsIn.mem (by repeat (first | exact WRowsIn.here | exact WRowsIn.last | apply WRowsIn.there | apply WRowsIn.thereS)) _ (by omega))) rfl) ?_
  refine VL.r (.inl rfl) rfl (by decide) (yr_fieldAddr rfl Try.underlying32 rfl rfl sz22_Vec (by decide) rfl) ?_
  refine VL.q (.inl rfl) rfl (by decide) (yq_load rfl fb22_Vec rfl (by first | exact Sees.root (by assumption) | exact Sees.own (by repeat (first | exact List.mem_cons_self | exact List.mem_append_left _ (by assumption) | apply List.mem_cons_of_mem | apply List.mem_append_right)) | exact Sees.root (hR _ (by omega)) | exact Sees.own (RowsIn.mem (by repeat (first | exact RowsIn.here | exact RowsIn.last | apply RowsIn.there | apply RowsIn.thereS)) _ (by omega)) | exact Sees.own (WRowsIn.mem (by repeat (first | exact WRowsIn.here | exact WRowsIn.last | apply WRowsIn.there | apply WRowsIn.thereS)) _ (by omega))) rfl) ?_
  refine VL.r (.inl rfl) rfl (by decide) (yr_float rfl (.inr (.inl rfl)) rfl rfl) ?_
  refine VL.r (.inl rfl) rfl (by decide) (yr_fieldAddr rfl Try.underlying32 rfl rfl sz22_Vec (by decide) rfl) ?_
  refine VL.q (.inl rfl) rfl (by decide) (yq_load rfl fb22_Vec rfl (by first | exact Sees.root (by assumption) | exact Sees.own (by repeat (first | exact List.mem_cons_self | exact List.mem_append_left _ (by assumption) | apply List.mem_cons_of_mem | apply List.mem_append_right)) | exact Sees.root (hR _ (by omega)) | exact Sees.own (RowsIn.mem (by repeat (first | exact RowsIn.here | exact RowsIn.last | apply RowsIn.there | apply RowsIn.thereS)) _ (by omega)) | exact Sees.own (WRowsIn.mem (by repeat (first | exact WRowsIn.here | exact WRowsIn.last | apply WRowsIn.there | apply WRowsIn.thereS)) _ (by omega))) rfl) ?_
  refine VL.r (.inl rfl) rfl (by decide) (yr_fieldAddr rfl Try.underlying32 rfl rfl sz22_Vec (by decide) rfl) ?_
  refine VL.q (.inl rfl) rfl (by decide) (yq_load rfl fb22_Vec rfl (by first | exact Sees.root (by assumption) | exact Sees.own (by repeat (first | exact List.mem_cons_self | exact List.mem_append_left _ (by assumption) | apply List.mem_cons_of_mem | apply List.mem_append_right)) | exact Sees.root (hR _ (by omega)) | exact Sees.own (RowsIn.mem (by repeat (first | exact RowsIn.here | exact RowsIn.last | apply RowsIn.there | apply RowsIn.thereS)) _ (by omega)) | exact Sees.own (WRowsIn.mem (by repeat (first | exact WRowsIn.here | exact WRowsIn.last | apply WRowsIn.there | apply WRowsIn.thereS)) _ (by omega))) rfl) ?_
  refine VL.r (.inl rfl) rfl (by decide) (yr_float rfl (.inr (.inl rfl)) rfl rfl) ?_
  refine VL.r (.inl rfl) rfl (by decide) (yr_build rfl lay32_Vec rfl (.cons rfl (.cons rfl (.cons rfl .nil))) (by first | (simp; done) | (simp [vv]; done) | (simp [cn, cn1, cn0]; done)) rfl) ?_
  refine VL.s (.inl rfl) rfl (yc_store rfl sz32_Vec rfl rfl (by repeat (first | exact UpdF.here | apply UpdF.there | apply UpdF.thereS)) (.inr ⟨rfl, rfl⟩) rfl (by first | exact Nat.le_of_ble_eq_true rfl | simp) (by decide) rfl) ?_
  rintro ⟨⟩
  refine VL.nil ?_
  refine VE.then_wp ?_
  refine V.ret ?_
  refine retC rfl (rv_cellS rfl Try.underlying32 sz32_Vec (by first | exact Sees.root (by assumption) | exact Sees.own (by repeat (first | exact List.mem_cons_self | exact List.mem_append_left _ (by assumption) | apply List.mem_cons_of_mem | apply List.mem_append_right)) | exact Sees.root (hR _ (by omega)) | exact Sees.own (RowsIn.mem (by repeat (first | exact RowsIn.here | exact RowsIn.last | apply RowsIn.there | apply RowsIn.thereS)) _ (by omega)) | exact Sees.own (WRowsIn.mem (by repeat (first | exact WRowsIn.here | exact WRowsIn.last | apply WRowsIn.there | apply WRowsIn.thereS)) _ (by omega))) rfl rfl rfl) (by nofun) (fun w1 hw => ?_)
  exact ⟨rfl, hw.below⟩

theorem c_sub3S {w : World} {x1 x2 x3 y1 y2 y3 : Nat} : Pure Try.prog 132 [vv (x1, x2, x3), vv (y1, y2, y3)] w (vv (sub3 (x1, x2, x3) (y1, y2, y3))) := by
  refine Pure.enter Try.func132 rfl Try.ntmps132 (Nat.le_of_ble_eq_true rfl) ?_
  refine V.seq ?_
  refine V.region ?_
  refine VL.new1 (.inl rfl) rfl (by decide) (yn_box rfl rfl (.inr ⟨rfl, rfl⟩)) ?_
  intro b2
  refine VL.new1 (.inl rfl) rfl (by decide) (yn_box rfl rfl (.inr ⟨rfl, rfl⟩)) ?_
  intro b3
  refine VL.new1 (.inl rfl) rfl (by decide) (yn_alloc rfl zero32_Vec rfl) ?_
  intro b4
  refine VL.nil ?_
  refine VE.then_wp ?_
  refine V.seq ?_
  refine V.region ?_
  refine VL.r (.inl rfl) rfl (by decide) (yr_fieldAddr rfl Try.underlying32 rfl rfl sz22_Vec (by decide) rfl) ?_
  refine VL.q (.inl rfl) rfl (by decide) (yq_load rfl fb22_Vec rfl (by first | exact Sees.root (by assumption) | exact Sees.own (by repeat (first | exact List.mem_cons_self | exact List.mem_append_left _ (by assumption) | apply List.mem_cons_of_mem | apply List.mem_append_right)) | exact Sees.root (hR _ (by omega)) | exact Sees.own (RowsIn.mem (by repeat (first | exact RowsIn.here | exact RowsIn.last | apply RowsIn.there | apply RowsIn.thereS)) _ (by omega)) | exact Sees.own (WRowsIn.mem (by repeat (first | exact WRowsIn.here | exact WRowsIn.last | apply WRowsIn.there | apply WRowsIn.thereS)) _ (by omega))) rfl) ?_
  refine VL.r (.inl rfl) rfl (by decide) (yr_fieldAddr rfl Try.underlying32 rfl rfl sz22_Vec (by decide) rfl) ?_
  refine VL.q (.inl rfl) rfl (by decide) (yq_load rfl fb22_Vec rfl (by first | exact Sees.root (by assumption) | exact Sees.own (by repeat (first | exact List.mem_cons_self | exact List.mem_append_left _ (by assumption) | apply List.mem_cons_of_mem | apply List.mem_append_right)) | exact Sees.root (hR _ (by omega)) | exact Sees.own (RowsIn.mem (by repeat (first | exact RowsIn.here | exact RowsIn.last | apply RowsIn.there | apply RowsIn.thereS)) _ (by omega)) | exact Sees.own (WRowsIn.mem (by repeat (first | exact WRowsIn.here | exact WRowsIn.last | apply WRowsIn.there | apply WRowsIn.thereS)) _ (by omega))) rfl) ?_
  refine VL.r (.inl rfl) rfl (by decide) (yr_float rfl (.inr (.inl rfl)) rfl rfl) ?_
  refine VL.r (.inl rfl) rfl (by decide) (yr_fieldAddr rfl Try.underlying32 rfl rfl sz22_Vec (by decide) rfl) ?_
  refine VL.q (.inl rfl) rfl (by decide) (yq_load rfl fb22_Vec rfl (by first | exact Sees.root (by assumption) | exact Sees.own (by repeat (first | exact List.mem_cons_self | exact List.mem_append_left _ (by assumption) | apply List.mem_cons_of_mem | apply List.mem_append_right)) | exact Sees.root (hR _ (by omega)) | exact Sees.own (RowsIn.mem (by repeat (first | exact RowsIn.here | exact RowsIn.last | apply RowsIn.there | apply RowsIn.thereS)) _ (by omega)) | exact Sees.own (WRowsIn.mem (by repeat (first | exact WRowsIn.here | exact WRowsIn.last | apply WRowsIn.there | apply WRowsIn.thereS)) _ (by omega))) rfl) ?_
  refine VL.r (.inl rfl) rfl (by decide) (yr_fieldAddr rfl Try.underlying32 rfl rfl sz22_Vec (by decide) rfl) ?_
  refine VL.q (.inl rfl) rfl (by decide) (yq_load rfl fb22_Vec rfl (by first | exact Sees.root (by assumption) | exact Sees.own (by repeat (first | exact List.mem_cons_self | exact List.mem_append_left _ (by assumption) | apply List.mem_cons_of_mem | apply List.mem_append_right)) | exact Sees.root (hR _ (by omega)) | exact Sees.own (RowsIn.mem (by repeat (first | exact RowsIn.here | exact RowsIn.last | apply RowsIn.there | apply RowsIn.thereS)) _ (by omega)) | exact Sees.own (WRowsIn.mem (by repeat (first | exact WRowsIn.here | exact WRowsIn.last | apply WRowsIn.there | apply WRowsIn.thereS)) _ (by omega))) rfl) ?_
  refine VL.r (.inl rfl) rfl (by decide) (yr_float rfl (.inr (.inl rfl)) rfl rfl) ?_
  refine VL.r (.inl rfl) rfl (by decide) (yr_fieldAddr rfl Try.underlying32 rfl rfl sz22_Vec (by decide) rfl) ?_
  refine VL.q (.inl rfl) rfl (by decide) (yq_load rfl fb22_Vec rfl (by first | exact Sees.root (by assumption) | exact Sees.own (by repeat (first | exact List.mem_cons_self | exact List.mem_append_left _ (by assumption) | apply List.mem_cons_of_mem | apply List.mem_append_right)) | exact Sees.root (hR _ (by omega)) | exact Sees.own (RowsIn.mem (by repeat (first | exact RowsIn.here | exact RowsIn.last | apply RowsIn.there | apply RowsIn.thereS)) _ (by omega)) | exact Sees.own (WRowsIn.mem (by repeat (first | exact WRowsIn.here | exact WRowsIn.last | apply WRowsIn.there | apply WRowsIn.thereS)) _ (by omega))) rfl) ?_
  refine VL.r (.inl rfl) rfl (by decide) (yr_fieldAddr rfl Try.underlying32 rfl rfl sz22_Vec (by decide) rfl) ?_
  refine VL.q (.inl rfl) rfl (by decide) (yq_load rfl fb22_Vec rfl (by first | exact Sees.root (by assumption) | exact Sees.own (by repeat (first | exact List.mem_cons_self | exact List.mem_append_left _ (by assumption) | apply List.mem_cons_of_mem | apply List.mem_append_right)) | exact Sees.root (hR _ (by omega)) | exact Sees.own (RowsIn.mem (by repeat (first | exact RowsIn.here | exact RowsIn.last | apply RowsIn.there | apply RowsIn.thereS)) _ (by omega)) | exact Sees.own (WRowsIn.mem (by repeat (first | exact WRowsIn.here | exact WRowsIn.last | apply WRowsIn.there | apply WRowsIn.thereS)) _ (by omega))) rfl) ?_
  refine VL.r (.inl rfl) rfl (by decide) (yr_float rfl (.inr (.inl rfl)) rfl rfl) ?_
  refine VL.r (.inl rfl) rfl (by decide) (yr_build rfl lay32_Vec rfl (.cons rfl (.cons rfl (.cons rfl .nil))) (by first | (simp; done) | (simp [vv]; done) | (simp [cn, cn1, cn0]; done)) rfl) ?_
  refine VL.s (.inl rfl) rfl (yc_store rfl sz32_Vec rfl rfl (by repeat (first | exact UpdF.here | apply UpdF.there | apply UpdF.thereS)) (.inr ⟨rfl, rfl⟩) rfl (by first | exact Nat.le_of_ble_eq_true rfl | simp) (by decide) rfl) ?_
  rintro ⟨⟩
  refine VL.nil ?_
  refine VE.then_wp ?_
  refine V.ret ?_
  refine retC rfl (rv_cellS rfl Try.underlying32 sz32_Vec (by first | exact Sees.root (by assumption) | exact Sees.own (by repeat (first | exact List.mem_cons_self | exact List.mem_append_left _ (by assumption) | apply List.mem_cons_of_mem | apply List.mem_append_right)) | exact Sees.root (hR _ (by omega)) | exact Sees.own (RowsIn.mem (by repeat (first | exact RowsIn.here | exact RowsIn.last | apply RowsIn.there | apply RowsIn.thereS)) _ (by omega)) | exact Sees.own (WRowsIn.mem (by repeat (first | exact WRowsIn.here | exact WRowsIn.last | apply WRowsIn.there | apply WRowsIn.thereS)) _ (by omega))) rfl rfl rfl) (by nofun) (fun w1 hw => ?_)
  exact ⟨rfl, hw.below⟩

theorem c_scale3 {w : World} {x1 x2 x3 : Nat} {k : Nat} : Pure Try.prog 217 [vv (x1, x2, x3), .float .f32 k] w (vv (scale3 (x1, x2, x3) k)) := by
  refine Pure.enter Try.func217 rfl Try.ntmps217 (Nat.le_of_ble_eq_true rfl) ?_
  refine V.seq ?_
  refine V.region ?_
  refine VL.new1 (.inl rfl) rfl (by decide) (yn_box rfl rfl (.inr ⟨rfl, rfl⟩)) ?_
  intro b2
  refine VL.new1 (.inl rfl) rfl (by decide) (yn_alloc rfl zero32_Vec rfl) ?_
  intro b4
  refine VL.nil ?_
  refine VE.then_wp ?_
  refine V.seq ?_
  refine V.region ?_
  refine VL.r (.inl rfl) rfl (by decide) (yr_fieldAddr rfl Try.underlying32 rfl rfl sz22_Vec (by decide) rfl) ?_
  refine VL.q (.inl rfl) rfl (by decide) (yq_load rfl fb22_Vec rfl (by first | exact Sees.root (by assumption) | exact Sees.own (by repeat (first | exact List.mem_cons_self | exact List.mem_append_left _ (by assumption) | apply List.mem_cons_of_mem | apply List.mem_append_right)) | exact Sees.root (hR _ (by omega)) | exact Sees.own (RowsIn.mem (by repeat (first | exact RowsIn.here | exact RowsIn.last | apply RowsIn.there | apply RowsIn.thereS)) _ (by omega)) | exact Sees.own (WRowsIn.mem (by repeat (first | exact WRowsIn.here | exact WRowsIn.last | apply WRowsIn.there | apply WRowsIn.thereS)) _ (by omega))) rfl) ?_
  refine VL.r (.inl rfl) rfl (by decide) (yr_move rfl rfl) ?_
  refine VL.r (.inl rfl) rfl (by decide) (yr_float rfl (.inr (.inr (.inl rfl))) rfl rfl) ?_
  refine VL.r (.inl rfl) rfl (by decide) (yr_fieldAddr rfl Try.underlying32 rfl rfl sz22_Vec (by decide) rfl) ?_
  refine VL.q (.inl rfl) rfl (by decide) (yq_load rfl fb22_Vec rfl (by first | exact Sees.root (by assumption) | exact Sees.own (by repeat (first | exact List.mem_cons_self | exact List.mem_append_left _ (by assumption) | apply List.mem_cons_of_mem | apply List.mem_append_right)) | exact Sees.root (hR _ (by omega)) | exact Sees.own (RowsIn.mem (by repeat (first | exact RowsIn.here | exact RowsIn.last | apply RowsIn.there | apply RowsIn.thereS)) _ (by omega)) | exact Sees.own (WRowsIn.mem (by repeat (first | exact WRowsIn.here | exact WRowsIn.last | apply WRowsIn.there | apply WRowsIn.thereS)) _ (by omega))) rfl) ?_
  refine VL.r (.inl rfl) rfl (by decide) (yr_move rfl rfl) ?_
  refine VL.r (.inl rfl) rfl (by decide) (yr_float rfl (.inr (.inr (.inl rfl))) rfl rfl) ?_
  refine VL.r (.inl rfl) rfl (by decide) (yr_fieldAddr rfl Try.underlying32 rfl rfl sz22_Vec (by decide) rfl) ?_
  refine VL.q (.inl rfl) rfl (by decide) (yq_load rfl fb22_Vec rfl (by first | exact Sees.root (by assumption) | exact Sees.own (by repeat (first | exact List.mem_cons_self | exact List.mem_append_left _ (by assumption) | apply List.mem_cons_of_mem | apply List.mem_append_right)) | exact Sees.root (hR _ (by omega)) | exact Sees.own (RowsIn.mem (by repeat (first | exact RowsIn.here | exact RowsIn.last | apply RowsIn.there | apply RowsIn.thereS)) _ (by omega)) | exact Sees.own (WRowsIn.mem (by repeat (first | exact WRowsIn.here | exact WRowsIn.last | apply WRowsIn.there | apply WRowsIn.thereS)) _ (by omega))) rfl) ?_
  refine VL.r (.inl rfl) rfl (by decide) (yr_move rfl rfl) ?_
  refine VL.r (.inl rfl) rfl (by decide) (yr_float rfl (.inr (.inr (.inl rfl))) rfl rfl) ?_
  refine VL.r (.inl rfl) rfl (by decide) (yr_build rfl lay32_Vec rfl (.cons rfl (.cons rfl (.cons rfl .nil))) (by first | (simp; done) | (simp [vv]; done) | (simp [cn, cn1, cn0]; done)) rfl) ?_
  refine VL.s (.inl rfl) rfl (yc_store rfl sz32_Vec rfl rfl (by repeat (first | exact UpdF.here | apply UpdF.there | apply UpdF.thereS)) (.inr ⟨rfl, rfl⟩) rfl (by first | exact Nat.le_of_ble_eq_true rfl | simp) (by decide) rfl) ?_
  rintro ⟨⟩
  refine VL.nil ?_
  refine VE.then_wp ?_
  refine V.ret ?_
  refine retC rfl (rv_cellS rfl Try.underlying32 sz32_Vec (by first | exact Sees.root (by assumption) | exact Sees.own (by repeat (first | exact List.mem_cons_self | exact List.mem_append_left _ (by assumption) | apply List.mem_cons_of_mem | apply List.mem_append_right)) | exact Sees.root (hR _ (by omega)) | exact Sees.own (RowsIn.mem (by repeat (first | exact RowsIn.here | exact RowsIn.last | apply RowsIn.there | apply RowsIn.thereS)) _ (by omega)) | exact Sees.own (WRowsIn.mem (by repeat (first | exact WRowsIn.here | exact WRowsIn.last | apply WRowsIn.there | apply WRowsIn.thereS)) _ (by omega))) rfl rfl rfl) (by nofun) (fun w1 hw => ?_)
  exact ⟨rfl, hw.below⟩

theorem c_scale3S {w : World} {x1 x2 x3 : Nat} {k : Nat} : Pure Try.prog 214 [vv (x1, x2, x3), .float .f32 k] w (vv (scale3 (x1, x2, x3) k)) := by
  refine Pure.enter Try.func214 rfl Try.ntmps214 (Nat.le_of_ble_eq_true rfl) ?_
  refine V.seq ?_
  refine V.region ?_
  refine VL.new1 (.inl rfl) rfl (by decide) (yn_box rfl rfl (.inr ⟨rfl, rfl⟩)) ?_
  intro b2
  refine VL.new1 (.inl rfl) rfl (by decide) (yn_alloc rfl zero32_Vec rfl) ?_
  intro b4
  refine VL.nil ?_
  refine VE.then_wp ?_
  refine V.seq ?_
  refine V.region ?_
  refine VL.r (.inl rfl) rfl (by decide) (yr_fieldAddr rfl Try.underlying32 rfl rfl sz22_Vec (by decide) rfl) ?_
  refine VL.q (.inl rfl) rfl (by decide) (yq_load rfl fb22_Vec rfl (by first | exact Sees.root (by assumption) | exact Sees.own (by repeat (first | exact List.mem_cons_self | exact List.mem_append_left _ (by assumption) | apply List.mem_cons_of_mem | apply List.mem_append_right)) | exact Sees.root (hR _ (by omega)) | exact Sees.own (RowsIn.mem (by repeat (first | exact RowsIn.here | exact RowsIn.last | apply RowsIn.there | apply RowsIn.thereS)) _ (by omega)) | exact Sees.own (WRowsIn.mem (by repeat (first | exact WRowsIn.here | exact WRowsIn.last | apply WRowsIn.there | apply WRowsIn.thereS)) _ (by omega))) rfl) ?_
  refine VL.r (.inl rfl) rfl (by decide) (yr_move rfl rfl) ?_
  refine VL.r (.inl rfl) rfl (by decide) (yr_float rfl (.inr (.inr (.inl rfl))) rfl rfl) ?_
  refine VL.r (.inl rfl) rfl (by decide) (yr_fieldAddr rfl Try.underlying32 rfl rfl sz22_Vec (by decide) rfl) ?_
  refine VL.q (.inl rfl) rfl (by decide) (yq_load rfl fb22_Vec rfl (by first | exact Sees.root (by assumption) | exact Sees.own (by repeat (first | exact List.mem_cons_self | exact List.mem_append_left _ (by assumption) | apply List.mem_cons_of_mem | apply List.mem_append_right)) | exact Sees.root (hR _ (by omega)) | exact Sees.own (RowsIn.mem (by repeat (first | exact RowsIn.here | exact RowsIn.last | apply RowsIn.there | apply RowsIn.thereS)) _ (by omega)) | exact Sees.own (WRowsIn.mem (by repeat (first | exact WRowsIn.here | exact WRowsIn.last | apply WRowsIn.there | apply WRowsIn.thereS)) _ (by omega))) rfl) ?_
  refine VL.r (.inl rfl) rfl (by decide) (yr_move rfl rfl) ?_
  refine VL.r (.inl rfl) rfl (by decide) (yr_float rfl (.inr (.inr (.inl rfl))) rfl rfl) ?_
  refine VL.r (.inl rfl) rfl (by decide) (yr_fieldAddr rfl Try.underlying32 rfl rfl sz22_Vec (by decide) rfl) ?_
  refine VL.q (.inl rfl) rfl (by decide) (yq_load rfl fb22_Vec rfl (by first | exact Sees.root (by assumption) | exact Sees.own (by repeat (first | exact List.mem_cons_self | exact List.mem_append_left _ (by assumption) | apply List.mem_cons_of_mem | apply List.mem_append_right)) | exact Sees.root (hR _ (by omega)) | exact Sees.own (RowsIn.mem (by repeat (first | exact RowsIn.here | exact RowsIn.last | apply RowsIn.there | apply RowsIn.thereS)) _ (by omega)) | exact Sees.own (WRowsIn.mem (by repeat (first | exact WRowsIn.here | exact WRowsIn.last | apply WRowsIn.there | apply WRowsIn.thereS)) _ (by omega))) rfl) ?_
  refine VL.r (.inl rfl) rfl (by decide) (yr_move rfl rfl) ?_
  refine VL.r (.inl rfl) rfl (by decide) (yr_float rfl (.inr (.inr (.inl rfl))) rfl rfl) ?_
  refine VL.r (.inl rfl) rfl (by decide) (yr_build rfl lay32_Vec rfl (.cons rfl (.cons rfl (.cons rfl .nil))) (by first | (simp; done) | (simp [vv]; done) | (simp [cn, cn1, cn0]; done)) rfl) ?_
  refine VL.s (.inl rfl) rfl (yc_store rfl sz32_Vec rfl rfl (by repeat (first | exact UpdF.here | apply UpdF.there | apply UpdF.thereS)) (.inr ⟨rfl, rfl⟩) rfl (by first | exact Nat.le_of_ble_eq_true rfl | simp) (by decide) rfl) ?_
  rintro ⟨⟩
  refine VL.nil ?_
  refine VE.then_wp ?_
  refine V.ret ?_
  refine retC rfl (rv_cellS rfl Try.underlying32 sz32_Vec (by first | exact Sees.root (by assumption) | exact Sees.own (by repeat (first | exact List.mem_cons_self | exact List.mem_append_left _ (by assumption) | apply List.mem_cons_of_mem | apply List.mem_append_right)) | exact Sees.root (hR _ (by omega)) | exact Sees.own (RowsIn.mem (by repeat (first | exact RowsIn.here | exact RowsIn.last | apply RowsIn.there | apply RowsIn.thereS)) _ (by omega)) | exact Sees.own (WRowsIn.mem (by repeat (first | exact WRowsIn.here | exact WRowsIn.last | apply WRowsIn.there | apply WRowsIn.thereS)) _ (by omega))) rfl rfl rfl) (by nofun) (fun w1 hw => ?_)
  exact ⟨rfl, hw.below⟩

theorem c_inner3 {w : World} {x1 x2 x3 y1 y2 y3 : Nat} : Pure Try.prog 188 [vv (x1, x2, x3), vv (y1, y2, y3)] w (.float .f32 (inner3 (x1, x2, x3) (y1, y2, y3))) := by
  refine Pure.enter Try.func188 rfl Try.ntmps188 (Nat.le_of_ble_eq_true rfl) ?_
  refine V.seq ?_
  refine V.region ?_
  refine VL.new1 (.inl rfl) rfl (by decide) (yn_box rfl rfl (.inr ⟨rfl, rfl⟩)) ?_
  intro b2
  refine VL.new1 (.inl rfl) rfl (by decide) (yn_box rfl rfl (.inr ⟨rfl, rfl⟩)) ?_
  intro b3
  refine VL.r (.inl rfl) rfl (by decide) (yr_assign (u := .float .f32 0) rfl rfl) ?_
  refine VL.nil ?_
  refine VE.then_wp ?_
  refine V.seq ?_
  refine V.region ?_
  refine VL.r (.inl rfl) rfl (by decide) (yr_fieldAddr rfl Try.underlying32 rfl rfl sz22_Vec (by decide) rfl) ?_
  refine VL.q (.inl rfl) rfl (by decide) (yq_load rfl fb22_Vec rfl (by first | exact Sees.root (by assumption) | exact Sees.own (by repeat (first | exact List.mem_cons_self | exact List.mem_append_left _ (by assumption) | apply List.mem_cons_of_mem | apply List.mem_append_right)) | exact Sees.root (hR _ (by omega)) | exact Sees.own (RowsIn.mem (by repeat (first | exact RowsIn.here | exact RowsIn.last | apply RowsIn.there | apply RowsIn.thereS)) _ (by omega)) | exact Sees.own (WRowsIn.mem (by repeat (first | exact WRowsIn.here | exact WRowsIn.last | apply WRowsIn.there | apply WRowsIn.thereS)) _ (by omega))) rfl) ?_
  refine VL.r (.inl rfl) rfl (by decide) (yr_fieldAddr rfl Try.underlying32 rfl rfl sz22_Vec (by decide) rfl) ?_
  refine VL.q (.inl rfl) rfl (by decide) (yq_load rfl fb22_Vec rfl (by first | exact Sees.root (by assumption) | exact Sees.own (by repeat (first | exact List.mem_cons_self | exact List.mem_append_left _ (by assumption) | apply List.mem_cons_of_mem | apply List.mem_append_right)) | exact Sees.root (hR _ (by omega)) | exact Sees.own (RowsIn.mem (by repeat (first | exact RowsIn.here | exact RowsIn.last | apply RowsIn.there | apply RowsIn.thereS)) _ (by omega)) | exact Sees.own (WRowsIn.mem (by repeat (first | exact WRowsIn.here | exact WRowsIn.last | apply WRowsIn.there | apply WRowsIn.thereS)) _ (by omega))) rfl) ?_
  refine VL.r (.inl rfl) rfl (by decide) (yr_float rfl (.inr (.inr (.inl rfl))) rfl rfl) ?_
  refine VL.r (.inl rfl) rfl (by decide) (yr_fieldAddr rfl Try.underlying32 rfl rfl sz22_Vec (by decide) rfl) ?_
  refine VL.q (.inl rfl) rfl (by decide) (yq_load rfl fb22_Vec rfl (by first | exact Sees.root (by assumption) | exact Sees.own (by repeat (first | exact List.mem_cons_self | exact List.mem_append_left _ (by assumption) | apply List.mem_cons_of_mem | apply List.mem_append_right)) | exact Sees.root (hR _ (by omega)) | exact Sees.own (RowsIn.mem (by repeat (first | exact RowsIn.here | exact RowsIn.last | apply RowsIn.there | apply RowsIn.thereS)) _ (by omega)) | exact Sees.own (WRowsIn.mem (by repeat (first | exact WRowsIn.here | exact WRowsIn.last | apply WRowsIn.there | apply WRowsIn.thereS)) _ (by omega))) rfl) ?_
  refine VL.r (.inl rfl) rfl (by decide) (yr_fieldAddr rfl Try.underlying32 rfl rfl sz22_Vec (by decide) rfl) ?_
  refine VL.q (.inl rfl) rfl (by decide) (yq_load rfl fb22_Vec rfl (by first | exact Sees.root (by assumption) | exact Sees.own (by repeat (first | exact List.mem_cons_self | exact List.mem_append_left _ (by assumption) | apply List.mem_cons_of_mem | apply List.mem_append_right)) | exact Sees.root (hR _ (by omega)) | exact Sees.own (RowsIn.mem (by repeat (first | exact RowsIn.here | exact RowsIn.last | apply RowsIn.there | apply RowsIn.thereS)) _ (by omega)) | exact Sees.own (WRowsIn.mem (by repeat (first | exact WRowsIn.here | exact WRowsIn.last | apply WRowsIn.there | apply WRowsIn.thereS)) _ (by omega))) rfl) ?_
  refine VL.r (.inl rfl) rfl (by decide) (yr_float rfl (.inr (.inr (.inl rfl))) rfl rfl) ?_
  refine VL.r (.inl rfl) rfl (by decide) (yr_float rfl (.inl rfl) rfl rfl) ?_
  refine VL.r (.inl rfl) rfl (by decide) (yr_fieldAddr rfl Try.underlying32 rfl rfl sz22_Vec (by decide) rfl) ?_
  refine VL.q (.inl rfl) rfl (by decide) (yq_load rfl fb22_Vec rfl (by first | exact Sees.root (by assumption) | exact Sees.own (by repeat (first | exact List.mem_cons_self | exact List.mem_append_left _ (by assumption) | apply List.mem_cons_of_mem | apply List.mem_append_right)) | exact Sees.root (hR _ (by omega)) | exact Sees.own (RowsIn.mem (by repeat (first | exact RowsIn.here | exact RowsIn.last | apply RowsIn.there | apply RowsIn.thereS)) _ (by omega)) | exact Sees.own (WRowsIn.mem (by repeat (first | exact WRowsIn.here | exact WRowsIn.last | apply WRowsIn.there | apply WRowsIn.thereS)) _ (by omega))) rfl) ?_
  refine VL.r (.inl rfl) rfl (by decide) (yr_fieldAddr rfl Try.underlying32 rfl rfl sz22_Vec (by decide) rfl) ?_
  refine VL.q (.inl rfl) rfl (by decide) (yq_load rfl fb22_Vec rfl (by first | exact Sees.root (by assumption) | exact Sees.own (by repeat (first | exact List.mem_cons_self | exact List.mem_append_left _ (by assumption) | apply List.mem_cons_of_mem | apply List.mem_append_right)) | exact Sees.root (hR _ (by omega)) | exact Sees.own (RowsIn.mem (by repeat (first | exact RowsIn.here | exact RowsIn.last | apply RowsIn.there | apply RowsIn.thereS)) _ (by omega)) | exact Sees.own (WRowsIn.mem (by repeat (first | exact WRowsIn.here | exact WRowsIn.last | apply WRowsIn.there | apply WRowsIn.thereS)) _ (by omega))) rfl) ?_
  refine VL.r (.inl rfl) rfl (by decide) (yr_float rfl (.inr (.inr (.inl rfl))) rfl rfl) ?_
  refine VL.r (.inl rfl) rfl (by decide) (yr_float rfl (.inl rfl) rfl rfl) ?_
  refine VL.r (.inl rfl) rfl (by decide) (yr_assign rfl rfl) ?_
  refine VL.nil ?_
  refine VE.then_wp ?_
  refine V.ret ?_
  refine ret1 rfl rfl (fun w1 hw => ?_)
  exact ⟨rfl, hw.below⟩

theorem c_inner3S {w : World} {x1 x2 x3 y1 y2 y3 : Nat} : Pure Try.prog 183 [vv (x1, x2, x3), vv (y1, y2, y3)] w (.float .f32 (inner3 (x1, x2, x3) (y1, y2, y3))) := by
  refine Pure.enter Try.func183 rfl Try.ntmps183 (Nat.le_of_ble_eq_true rfl) ?_
  refine V.seq ?_
  refine V.region ?_
  refine VL.new1 (.inl rfl) rfl (by decide) (yn_box rfl rfl (.inr ⟨rfl, rfl⟩)) ?_
  intro b2
  refine VL.new1 (.inl rfl) rfl (by decide) (yn_box rfl rfl (.inr ⟨rfl, rfl⟩)) ?_
  intro b3
  refine VL.r (.inl rfl) rfl (by decide) (yr_assign (u := .float .f32 0) rfl rfl) ?_
  refine VL.nil ?_
  refine VE.then_wp ?_
  refine V.seq ?_
  refine V.region ?_
  refine VL.r (.inl rfl) rfl (by decide) (yr_fieldAddr rfl Try.underlying32 rfl rfl sz22_Vec (by decide) rfl) ?_
  refine VL.q (.inl rfl) rfl (by decide) (yq_load rfl fb22_Vec rfl (by first | exact Sees.root (by assumption) | exact Sees.own (by repeat (first | exact List.mem_cons_self | exact List.mem_append_left _ (by assumption) | apply List.mem_cons_of_mem | apply List.mem_append_right)) | exact Sees.root (hR _ (by omega)) | exact Sees.own (RowsIn.mem (by repeat (first | exact RowsIn.here | exact RowsIn.last | apply RowsIn.there | apply RowsIn.thereS)) _ (by omega)) | exact Sees.own (WRowsIn.mem (by repeat (first | exact WRowsIn.here | exact WRowsIn.last | apply WRowsIn.there | apply WRowsIn.thereS)) _ (by omega))) rfl) ?_
  refine VL.r (.inl rfl) rfl (by decide) (yr_fieldAddr rfl Try.underlying32 rfl rfl sz22_Vec (by decide) rfl) ?_
  refine VL.q (.inl rfl) rfl (by decide) (yq_load rfl fb22_Vec rfl (by first | exact Sees.root (by assumption) | exact Sees.own (by repeat (first | exact List.mem_cons_self | exact List.mem_append_left _ (by assumption) | apply List.mem_cons_of_mem | apply List.mem_append_right)) | exact Sees.root (hR _ (by omega)) | exact Sees.own (RowsIn.mem (by repeat (first | exact RowsIn.here | exact RowsIn.last | apply RowsIn.there | apply RowsIn.thereS)) _ (by omega)) | exact Sees.own (WRowsIn.mem (by repeat (first | exact WRowsIn.here | exact WRowsIn.last | apply WRowsIn.there | apply WRowsIn.thereS)) _ (by omega))) rfl) ?_
  refine VL.r (.inl rfl) rfl (by decide) (yr_float rfl (.inr (.inr (.inl rfl))) rfl rfl) ?_
  refine VL.r (.inl rfl) rfl (by decide) (yr_fieldAddr rfl Try.underlying32 rfl rfl sz22_Vec (by decide) rfl) ?_
  refine VL.q (.inl rfl) rfl (by decide) (yq_load rfl fb22_Vec rfl (by first | exact Sees.root (by assumption) | exact Sees.own (by repeat (first | exact List.mem_cons_self | exact List.mem_append_left _ (by assumption) | apply List.mem_cons_of_mem | apply List.mem_append_right)) | exact Sees.root (hR _ (by omega)) | exact Sees.own (RowsIn.mem (by repeat (first | exact RowsIn.here | exact RowsIn.last | apply RowsIn.there | apply RowsIn.thereS)) _ (by omega)) | exact Sees.own (WRowsIn.mem (by repeat (first | exact WRowsIn.here | exact WRowsIn.last | apply WRowsIn.there | apply WRowsIn.thereS)) _ (by omega))) rfl) ?_
  refine VL.r (.inl rfl) rfl (by decide) (yr_fieldAddr rfl Try.underlying32 rfl rfl sz22_Vec (by decide) rfl) ?_
  refine VL.q (.inl rfl) rfl (by decide) (yq_load rfl fb22_Vec rfl (by first | exact Sees.root (by assumption) | exact Sees.own (by repeat (first | exact List.mem_cons_self | exact List.mem_append_left _ (by assumption) | apply List.mem_cons_of_mem | apply List.mem_append_right)) | exact Sees.root (hR _ (by omega)) | exact Sees.own (RowsIn.mem (by repeat (first | exact RowsIn.here | exact RowsIn.last | apply RowsIn.there | apply RowsIn.thereS)) _ (by omega)) | exact Sees.own (WRowsIn.mem (by repeat (first | exact WRowsIn.here | exact WRowsIn.last | apply WRowsIn.there | apply WRowsIn.thereS)) _ (by omega))) rfl) ?_
  refine VL.r (.inl rfl) rfl (by decide) (yr_float rfl (.inr (.inr (.inl rfl))) rfl rfl) ?_
  refine VL.r (.inl rfl) rfl (by decide) (yr_float rfl (.inl rfl) rfl rfl) ?_
  refine VL.r (.inl rfl) rfl (by decide) (yr_fieldAddr rfl Try.underlying32 rfl rfl sz22_Vec (by decide) rfl) ?_
  refine VL.q (.inl rfl) rfl (by decide) (yq_load rfl fb22_Vec rfl (by first | exact Sees.root (by assumption) | exact Sees.own (by repeat (first | exact List.mem_cons_self | exact List.mem_append_left _ (by assumption) | apply List.mem_cons_of_mem | apply List.mem_append_right)) | exact Sees.root (hR _ (by omega)) | exact Sees.own (RowsIn.mem (by repeat (first | exact RowsIn.here | exact RowsIn.last | apply RowsIn.there | apply RowsIn.thereS)) _ (by omega)) | exact Sees.own (WRowsIn.mem (by repeat (first | exact WRowsIn.here | exact WRowsIn.last | apply WRowsIn.there | apply WRowsIn.thereS)) _ (by omega))) rfl) ?_
  refine VL.r (.inl rfl) rfl (by decide) (yr_fieldAddr rfl Try.underlying32 rfl rfl sz22_Vec (by decide) rfl) ?_
  refine VL.q (.inl rfl) rfl (by decide) (yq_load rfl fb22_Vec rfl (by first | exact Sees.root (by assumption) | exact Sees.own (by repeat (first | exact List.mem_cons_self | exact List.mem_append_left _ (by assumption) | apply List.mem_cons_of_mem | apply List.mem_append_right)) | exact Sees.root (hR _ (by omega)) | exact Sees.own (RowsIn.mem (by repeat (first | exact RowsIn.here | exact RowsIn.last | apply RowsIn.there | apply RowsIn.thereS)) _ (by omega)) | exact Sees.own (WRowsIn.mem (by repeat (first | exact WRowsIn.here | exact WRowsIn.last | apply WRowsIn.there | apply WRowsIn.thereS)) _ (by omega))) rfl) ?_
  refine VL.r (.inl rfl) rfl (by decide) (yr_float rfl (.inr (.inr (.inl rfl))) rfl rfl) ?_
  refine VL.r (.inl rfl) rfl (by decide) (yr_float rfl (.inl rfl) rfl rfl) ?_
  refine VL.r (.inl rfl) rfl (by decide) (yr_assign rfl rfl) ?_
  refine VL.nil ?_
  refine VE.then_wp ?_
  refine V.ret ?_
  refine ret1 rfl rfl (fun w1 hw => ?_)
  exact ⟨rfl, hw.below⟩

theorem c_cross3 {w : World} {x1 x2 x3 y1 y2 y3 : Nat} : Pure Try.prog 227 [vv (x1, x2, x3), vv (y1, y2, y3)] w (vv (cross3 (x1, x2, x3) (y1, y2, y3))) := by
  refine Pure.enter Try.func227 rfl Try.ntmps227 (Nat.le_of_ble_eq_true rfl) ?_
  refine V.seq ?_
  refine V.region ?_
  refine VL.new1 (.inl rfl) rfl (by decide) (yn_box rfl rfl (.inr ⟨rfl, rfl⟩)) ?_
  intro b2
  refine VL.new1 (.inl rfl) rfl (by decide) (yn_box rfl rfl (.inr ⟨rfl, rfl⟩)) ?_
  intro b3
  refine VL.new1 (.inl rfl) rfl (by decide) (yn_alloc rfl zero32_Vec rfl) ?_
  intro b4
  refine VL.nil ?_
  refine VE.then_wp ?_
  refine V.seq ?_
  refine V.region ?_
  refine VL.r (.inl rfl) rfl (by decide) (yr_fieldAddr rfl Try.underlying32 rfl rfl sz22_Vec (by decide) rfl) ?_
  refine VL.q (.inl rfl) rfl (by decide) (yq_load rfl fb22_Vec rfl (by first | exact Sees.root (by assumption) | exact Sees.own (by repeat (first | exact List.mem_cons_self | exact List.mem_append_left _ (by assumption) | apply List.mem_cons_of_mem | apply List.mem_append_right)) | exact Sees.root (hR _ (by omega)) | exact Sees.own (RowsIn.mem (by repeat (first | exact RowsIn.here | exact RowsIn.last | apply RowsIn.there | apply RowsIn.thereS)) _ (by omega)) | exact Sees.own (WRowsIn.mem (by repeat (first | exact WRowsIn.here | exact WRowsIn.last | apply WRowsIn.there | apply WRowsIn.thereS)) _ (by omega))) rfl) ?_
  refine VL.r (.inl rfl) rfl (by decide) (yr_fieldAddr rfl Try.underlying32 rfl rfl sz22_Vec (by decide) rfl) ?_
  refine VL.q (.inl rfl) rfl (by decide) (yq_load rfl fb22_Vec rfl (by first | exact Sees.root (by assumption) | exact Sees.own (by repeat (first | exact List.mem_cons_self | exact List.mem_append_left _ (by assumption) | apply List.mem_cons_of_mem | apply List.mem_append_right)) | exact Sees.root (hR _ (by omega)) | exact Sees.own (RowsIn.mem (by repeat (first | exact RowsIn.here | exact RowsIn.last | apply RowsIn.there | apply RowsIn.thereS)) _ (by omega)) | exact Sees.own (WRowsIn.mem (by repeat (first | exact WRowsIn.here | exact WRowsIn.last | apply WRowsIn.there | apply WRowsIn.thereS)) _ (by omega))) rfl) ?_
  refine VL.r (.inl rfl) rfl (by decide) (yr_float rfl (.inr (.inr (.inl rfl))) rfl rfl) ?_
  refine VL.r (.inl rfl) rfl (by decide) (yr_fieldAddr rfl Try.underlying32 rfl rfl sz22_Vec (by decide) rfl) ?_
  refine VL.q (.inl rfl) rfl (by decide) (yq_load rfl fb22_Vec rfl (by first | exact Sees.root (by assumption) | exact Sees.own (by repeat (first | exact List.mem_cons_self | exact List.mem_append_left _ (by assumption) | apply List.mem_cons_of_mem | apply List.mem_append_right)) | exact Sees.root (hR _ (by omega)) | exact Sees.own (RowsIn.mem (by repeat (first | exact RowsIn.here | exact RowsIn.last | apply RowsIn.there | apply RowsIn.thereS)) _ (by omega)) | exact Sees.own (WRowsIn.mem (by repeat (first | exact WRowsIn.here | exact WRowsIn.last | apply WRowsIn.there | apply WRowsIn.thereS)) _ (by omega))) rfl) ?_
  refine VL.r (.inl rfl) rfl (by decide) (yr_fieldAddr rfl Try.underlying32 rfl rfl sz22_Vec (by decide) rfl) ?_
  refine VL.q (.inl rfl) rfl (by decide) (yq_load rfl fb22_Vec rfl (by first | exact Sees.root (by assumption) | exact Sees.own (by repeat (first | exact List.mem_cons_self | exact List.mem_append_left _ (by assumption) | apply List.mem_cons_of_mem | apply List.mem_append_right)) | exact Sees.root (hR _ (by omega)) | exact Sees.own (RowsIn.mem (by repeat (first | exact RowsIn.here | exact RowsIn.last | apply RowsIn.there | apply RowsIn.thereS)) _ (by omega)) | exact Sees.own (WRowsIn.mem (by repeat (first | exact WRowsIn.here | exact WRowsIn.last | apply WRowsIn.there | apply WRowsIn.thereS)) _ (by omega))) rfl) ?_
  refine VL.r (.inl rfl) rfl (by decide) (yr_float rfl (.inr (.inr (.inl rfl))) rfl rfl) ?_
  refine VL.r (.inl rfl) rfl (by decide) (yr_float rfl (.inr (.inl rfl)) rfl rfl) ?_
  refine VL.r (.inl rfl) rfl (by decide) (yr_fieldAddr rfl Try.underlying32 rfl rfl sz22_Vec (by decide) rfl) ?_
  refine VL.q (.inl rfl) rfl (by decide) (yq_load rfl fb22_Vec rfl (by first | exact Sees.root (by assumption) | exact Sees.own (by repeat (first | exact List.mem_cons_self | exact List.mem_append_left _ (by assumption) | apply List.mem_cons_of_mem | apply List.mem_append_right)) | exact Sees.root (hR _ (by omega)) | exact Sees.own (RowsIn.mem (by repeat (first | exact RowsIn.here | exact RowsIn.last | apply RowsIn.there | apply RowsIn.thereS)) _ (by omega)) | exact Sees.own (WRowsIn.mem (by repeat (first | exact WRowsIn.here | exact WRowsIn.last | apply WRowsIn.there | apply WRowsIn.thereS)) _ (by omega))) rfl) ?_
  refine VL.r (.inl rfl) rfl (by decide) (yr_fieldAddr rfl Try.underlying32 rfl rfl sz22_Vec (by decide) rfl) ?_
  refine VL.q (.inl rfl) rfl (by decide) (yq_load rfl fb22_Vec rfl (by first | exact Sees.root (by assumption) | exact Sees.own (by repeat (first | exact List.mem_cons_self | exact List.mem_append_left _ (by assumption) | apply List.mem_cons_of_mem | apply List.mem_append_right)) | exact Sees.root (hR _ (by omega)) | exact Sees.own (RowsIn.mem (by repeat (first | exact RowsIn.here | exact RowsIn.last | apply RowsIn.there | apply RowsIn.thereS)) _ (by omega)) | exact Sees.own (WRowsIn.mem (by repeat (first | exact WRowsIn.here | exact WRowsIn.last | apply WRowsIn.there | apply WRowsIn.thereS)) _ (by omega))) rfl) ?_
  refine VL.r (.inl rfl) rfl (by decide) (yr_float rfl (.inr (.inr (.inl rfl))) rfl rfl) ?_
  refine VL.r (.inl rfl) rfl (by decide) (yr_fieldAddr rfl Try.underlying32 rfl rfl sz22_Vec (by decide) rfl) ?_
  refine VL.q (.inl rfl) rfl (by decide) (yq_load rfl fb22_Vec rfl (by first | exact Sees.root (by assumption) | exact Sees.own (by repeat (first | exact List.mem_cons_self | exact List.mem_append_left _ (by assumption) | apply List.mem_cons_of_mem | apply List.mem_append_right)) | exact Sees.root (hR _ (by omega)) | exact Sees.own (RowsIn.mem (by repeat (first | exact RowsIn.here | exact RowsIn.last | apply RowsIn.there | apply RowsIn.thereS)) _ (by omega)) | exact Sees.own (WRowsIn.mem (by repeat (first | exact WRowsIn.here | exact WRowsIn.last | apply WRowsIn.there | apply WRowsIn.thereS)) _ (by omega))) rfl) ?_
  refine VL.r (.inl rfl) rfl (by decide) (yr_fieldAddr rfl Try.underlying32 rfl rfl sz22_Vec (by decide) rfl) ?_
  refine VL.q (.inl rfl) rfl (by decide) (yq_load rfl fb22_Vec rfl (by first | exact Sees.root (by assumption) | exact Sees.own (by repeat (first | exact List.mem_cons_self | exact List.mem_append_left _ (by assumption) | apply List.mem_cons_of_mem | apply List.mem_append_right)) | exact Sees.root (hR _ (by omega)) | exact Sees.own (RowsIn.mem (by repeat (first | exact RowsIn.here | exact RowsIn.last | apply RowsIn.there | apply RowsIn.thereS)) _ (by omega)) | exact Sees.own (WRowsIn.mem (by repeat (first | exact WRowsIn.here | exact WRowsIn.last | apply WRowsIn.there | apply WRowsIn.thereS)) _ (by omega))) rfl) ?_
  refine VL.r (.inl rfl) rfl (by decide) (yr_float rfl (.inr (.inr (.inl rfl))) rfl rfl) ?_
  refine VL.r (.inl rfl) rfl (by decide) (yr_float rfl (.inr (.inl rfl)) rfl rfl) ?_
  refine VL.r (.inl rfl) rfl (by decide) (yr_fieldAddr rfl Try.underlying32 rfl rfl sz22_Vec (by decide) rfl) ?_
  refine VL.q (.inl rfl) rfl (by decide) (yq_load rfl fb22_Vec rfl (by first | exact Sees.root (by assumption) | exact Sees.own (by repeat (first | exact List.mem_cons_self | exact List.mem_append_left _ (by assumption) | apply List.mem_cons_of_mem | apply List.mem_append_right)) | exact Sees.root (hR _ (by omega)) | exact Sees.own (RowsIn.mem (by repeat (first | exact RowsIn.here | exact RowsIn.last | apply RowsIn.there | apply RowsIn.thereS)) _ (by omega)) | exact Sees.own (WRowsIn.mem (by repeat (first | exact WRowsIn.here | exact WRowsIn.last | apply WRowsIn.there | apply WRowsIn.thereS)) _ (by omega))) rfl) ?_
  refine VL.r (.inl rfl) rfl (by decide) (yr_fieldAddr rfl Try.underlying32 rfl rfl sz22_Vec (by decide) rfl) ?_
  refine VL.q (.inl rfl) rfl (by decide) (yq_load rfl fb22_Vec rfl (by first | exact Sees.root (by assumption) | exact Sees.own (by repeat (first | exact List.mem_cons_self | exact List.mem_append_left _ (by assumption) | apply List.mem_cons_of_mem | apply List.mem_append_right)) | exact Sees.root (hR _ (by omega)) | exact Sees.own (RowsIn.mem (by repeat (first | exact RowsIn.here | exact RowsIn.last | apply RowsIn.there | apply RowsIn.thereS)) _ (by omega)) | exact Sees.own (WRowsIn.mem (by repeat (first | exact WRowsIn.here | exact WRowsIn.last | apply WRowsIn.there | apply WRowsIn.thereS)) _ (by omega))) rfl) ?_
  refine VL.r (.inl rfl) rfl (by decide) (yr_float rfl (.inr (.inr (.inl rfl))) rfl rfl) ?_
  refine VL.r (.inl rfl) rfl (by decide) (yr_fieldAddr rfl Try.underlying32 rfl rfl sz22_Vec (by decide) rfl) ?_
  refine VL.q (.inl rfl) rfl (by decide) (yq_load rfl fb22_Vec rfl (by first | exact Sees.root (by assumption) | exact Sees.own (by repeat (first | exact List.mem_cons_self | exact List.mem_append_left _ (by assumption) | apply List.mem_cons_of_mem | apply List.mem_append_right)) | exact Sees.root (hR _ (by omega)) | exact Sees.own (RowsIn.mem (by repeat (first | exact RowsIn.here | exact RowsIn.last | apply RowsIn.there | apply RowsIn.thereS)) _ (by omega)) | exact Sees.own (WRowsIn.mem (by repeat (first | exact WRowsIn.here | exact WRowsIn.last | apply WRowsIn.there | apply WRowsIn.thereS)) _ (by omega))) rfl) ?_
  refine VL.r (.inl rfl) rfl (by decide) (yr_fieldAddr rfl Try.underlying32 rfl rfl sz22_Vec (by decide) rfl) ?_
  refine VL.q (.inl rfl) rfl (by decide) (yq_load rfl fb22_Vec rfl (by first | exact Sees.root (by assumption) | exact Sees.own (by repeat (first | exact List.mem_cons_self | exact List.mem_append_left _ (by assumption) | apply List.mem_cons_of_mem | apply List.mem_append_right)) | exact Sees.root (hR _ (by omega)) | exact Sees.own (RowsIn.mem (by repeat (first | exact RowsIn.here | exact RowsIn.last | apply RowsIn.there | apply RowsIn.thereS)) _ (by omega)) | exact Sees.own (WRowsIn.mem (by repeat (first | exact WRowsIn.here | exact WRowsIn.last | apply WRowsIn.there | apply WRowsIn.thereS)) _ (by omega))) rfl) ?_
  refine VL.r (.inl rfl) rfl (by decide) (yr_float rfl (.inr (.inr (.inl rfl))) rfl rfl) ?_
  refine VL.r (.inl rfl) rfl (by decide) (yr_float rfl (.inr (.inl rfl)) rfl rfl) ?_
  refine VL.r (.inl rfl) rfl (by decide) (yr_build rfl lay32_Vec rfl (.cons rfl (.cons rfl (.cons rfl .nil))) (by first | (simp; done) | (simp [vv]; done) | (simp [cn, cn1, cn0]; done)) rfl) ?_
  refine VL.s (.inl rfl) rfl (yc_store rfl sz32_Vec rfl rfl (by repeat (first | exact UpdF.here | apply UpdF.there | apply UpdF.thereS)) (.inr ⟨rfl, rfl⟩) rfl (by first | exact Nat.le_of_ble_eq_true rfl | simp) (by decide) rfl) ?_
  rintro ⟨⟩
  refine VL.nil ?_
  refine VE.then_wp ?_
  refine V.ret ?_
  refine retC rfl (rv_cellS rfl Try.underlying32 sz32_Vec (by first | exact Sees.root (by assumption) | exact Sees.own (by repeat (first | exact List.mem_cons_self | exact List.mem_append_left _ (by assumption) | apply List.mem_cons_of_mem | apply List.mem_append_right)) | exact Sees.root (hR _ (by omega)) | exact Sees.own (RowsIn.mem (by repeat (first | exact RowsIn.here | exact RowsIn.last | apply RowsIn.there | apply RowsIn.thereS)) _ (by omega)) | exact Sees.own (WRowsIn.mem (by repeat (first | exact WRowsIn.here | exact WRowsIn.last | apply WRowsIn.there | apply WRowsIn.thereS)) _ (by omega))) rfl rfl rfl) (by nofun) (fun w1 hw => ?_)
  exact ⟨rfl, hw.below⟩

theorem c_cross3S {w : World} {x1 x2 x3 y1 y2 y3 : Nat} : Pure Try.prog 226 [vv (x1, x2, x3), vv (y1, y2, y3)] w (vv (cross3 (x1, x2, x3) (y1, y2, y3))) := by
  refine Pure.enter Try.func226 rfl Try.ntmps226 (Nat.le_of_ble_eq_true rfl) ?_
  refine V.seq ?_
  refine V.region ?_
  refine VL.new1 (.inl rfl) rfl (by decide) (yn_box rfl rfl (.inr ⟨rfl, rfl⟩)) ?_
  intro b2
  refine VL.new1 (.inl rfl) rfl (by decide) (yn_box rfl rfl (.inr ⟨rfl, rfl⟩)) ?_
  intro b3
  refine VL.new1 (.inl rfl) rfl (by decide) (yn_alloc rfl zero32_Vec rfl) ?_
  intro b4
  refine VL.nil ?_
  refine VE.then_wp ?_
  refine V.seq ?_
  refine V.region ?_
  refine VL.r (.inl rfl) rfl (by decide) (yr_fieldAddr rfl Try.underlying32 rfl rfl sz22_Vec (by decide) rfl) ?_
  refine VL.q (.inl rfl) rfl (by decide) (yq_load rfl fb22_Vec rfl (by first | exact Sees.root (by assumption) | exact Sees.own (by repeat (first | exact List.mem_cons_self | exact List.mem_append_left _ (by assumption) | apply List.mem_cons_of_mem | apply List.mem_append_right)) | exact Sees.root (hR _ (by omega)) | exact Sees.own (RowsIn.mem (by repeat (first | exact RowsIn.here | exact RowsIn.last | apply RowsIn.there | apply RowsIn.thereS)) _ (by omega)) | exact Sees.own (WRowsIn.mem (by repeat (first | exact WRowsIn.here | exact WRowsIn.last | apply WRowsIn.there | apply WRowsIn.thereS)) _ (by omega))) rfl) ?_
  refine VL.r (.inl rfl) rfl (by decide) (yr_fieldAddr rfl Try.underlying32 rfl rfl sz22_Vec (by decide) rfl) ?_
  refine VL.q (.inl rfl) rfl (by decide) (yq_load rfl fb22_Vec rfl (by first | exact Sees.root (by assumption) | exact Sees.own (by repeat (first | exact List.mem_cons_self | exact List.mem_append_left _ (by assumption) | apply List.mem_cons_of_mem | apply List.mem_append_right)) | exact Sees.root (hR _ (by omega)) | exact Sees.own (RowsIn.mem (by repeat (first | exact RowsIn.here | exact RowsIn.last | apply RowsIn.there | apply RowsIn.thereS)) _ (by omega)) | exact Sees.own (WRowsIn.mem (by repeat (first | exact WRowsIn.here | exact WRowsIn.last | apply WRowsIn.there | apply WRowsIn.thereS)) _ (by omega))) rfl) ?_
  refine VL.r (.inl rfl) rfl (by decide) (yr_float rfl (.inr (.inr (.inl rfl))) rfl rfl) ?_
  refine VL.r (.inl rfl) rfl (by decide) (yr_fieldAddr rfl Try.underlying32 rfl rfl sz22_Vec (by decide) rfl) ?_
  refine VL.q (.inl rfl) rfl (by decide) (yq_load rfl fb22_Vec rfl (by first | exact Sees.root (by assumption) | exact Sees.own (by repeat (first | exact List.mem_cons_self | exact List.mem_append_left _ (by assumption) | apply List.mem_cons_of_mem | apply List.mem_append_right)) | exact Sees.root (hR _ (by omega)) | exact Sees.own (RowsIn.mem (by repeat (first | exact RowsIn.here | exact RowsIn.last | apply RowsIn.there | apply RowsIn.thereS)) _ (by omega)) | exact Sees.own (WRowsIn.mem (by repeat (first | exact WRowsIn.here | exact WRowsIn.last | apply WRowsIn.there | apply WRowsIn.thereS)) _ (by omega))) rfl) ?_
  refine VL.r (.inl rfl) rfl (by decide) (yr_fieldAddr rfl Try.underlying32 rfl rfl sz22_Vec (by decide) rfl) ?_
  refine VL.q (.inl rfl) rfl (by decide) (yq_load rfl fb22_Vec rfl (by first | exact Sees.root (by assumption) | exact Sees.own (by repeat (first | exact List.mem_cons_self | exact List.mem_append_left _ (by assumption) | apply List.mem_cons_of_mem | apply List.mem_append_right)) | exact Sees.root (hR _ (by omega)) | exact Sees.own (RowsIn.mem (by repeat (first | exact RowsIn.here | exact RowsIn.last | apply RowsIn.there | apply RowsIn.thereS)) _ (by omega)) | exact Sees.own (WRowsIn.mem (by repeat (first | exact WRowsIn.here | exact WRowsIn.last | apply WRowsIn.there | apply WRowsIn.thereS)) _ (by omega))) rfl) ?_
  refine VL.r (.inl rfl) rfl (by decide) (yr_float rfl (.inr (.inr (.inl rfl))) rfl rfl) ?_
  refine VL.r (.inl rfl) rfl (by decide) (yr_float rfl (.inr (.inl rfl)) rfl rfl) ?_
  refine VL.r (.inl rfl) rfl (by decide) (yr_fieldAddr rfl Try.underlying32 rfl rfl sz22_Vec (by decide) rfl) ?_
  refine VL.q (.inl rfl) rfl (by decide) (yq_load rfl fb22_Vec rfl (by first | exact Sees.root (by assumption) | exact Sees.own (by repeat (first | exact List.mem_cons_self | exact List.mem_append_left _ (by assumption) | apply List.mem_cons_of_mem | apply List.mem_append_right)) | exact Sees.root (hR _ (by omega)) | exact Sees.own (RowsIn.mem (by repeat (first | exact RowsIn.here | exact RowsIn.last | apply RowsIn.there | apply RowsIn.thereS)) _ (by omega)) | exact Sees.own (WRowsIn.mem (by repeat (first | exact WRowsIn.here | exact WRowsIn.last | apply WRowsIn.there | apply WRowsIn.thereS)) _ (by omega))) rfl) ?_
  refine VL.r (.inl rfl) rfl (by decide) (yr_fieldAddr rfl Try.underlying32 rfl rfl sz22_Vec (by decide) rfl) ?_
  refine VL.q (.inl rfl) rfl (by decide) (yq_load rfl fb22_Vec rfl (by first | exact Sees.root (by assumption) | exact Sees.own (by repeat (first | exact List.mem_cons_self | exact List.mem_append_left _ (by assumption) | apply List.mem_cons_of_mem | apply List.mem_append_right)) | exact Sees.root (hR _ (by omega)) | exact Sees.own (RowsIn.mem (by repeat (first | exact RowsIn.here | exact RowsIn.last | apply RowsIn.there | apply RowsIn.thereS)) _ (by omega)) | exact Sees.own (WRowsIn.mem (by repeat (first | exact WRowsIn.here | exact WRowsIn.last | apply WRowsIn.there | apply WRowsIn.thereS)) _ (by omega))) rfl) ?_
  refine VL.r (.inl rfl) rfl (by decide) (yr_float rfl (.inr (.inr (.inl rfl))) rfl rfl) ?_
  refine VL.r (.inl rfl) rfl (by decide) (yr_fieldAddr rfl Try.underlying32 rfl rfl sz22_Vec (by decide) rfl) ?_
  refine VL.q (.inl rfl) rfl (by decide) (yq_load rfl fb22_Vec rfl (by first | exact Sees.root (by assumption) | exact Sees.own (by repeat (first | exact List.mem_cons_self | exact List.mem_append_left _ (by assumption) | apply List.mem_cons_of_mem | apply List.mem_append_right)) | exact Sees.root (hR _ (by omega)) | exact Sees.own (RowsIn.mem (by repeat (first | exact RowsIn.here | exact RowsIn.last | apply RowsIn.there | apply RowsIn.thereS)) _ (by omega)) | exact Sees.own (WRowsIn.mem (by repeat (first | exact WRowsIn.here | exact WRowsIn.last | apply WRowsIn.there | apply WRowsIn.thereS)) _ (by omega))) rfl) ?_
  refine VL.r (.inl rfl) rfl (by decide) (yr_fieldAddr rfl Try.underlying32 rfl rfl sz22_Vec (by decide) rfl) ?_
  refine VL.q (.inl rfl) rfl (by decide) (yq_load rfl fb22_Vec rfl (by first | exact Sees.root (by assumption) | exact Sees.own (by repeat (first | exact List.mem_cons_self | exact List.mem_append_left _ (by assumption) | apply List.mem_cons_of_mem | apply List.mem_append_right)) | exact Sees.root (hR _ (by omega)) | exact Sees.own (RowsIn.mem (by repeat (first | exact RowsIn.here | exact RowsIn.last | apply RowsIn.there | apply RowsIn.thereS)) _ (by omega)) | exact Sees.own (WRowsIn.mem (by repeat (first | exact WRowsIn.here | exact WRowsIn.last | apply WRowsIn.there | apply WRowsIn.thereS)) _ (by omega))) rfl) ?_
  refine VL.r (.inl rfl) rfl (by decide) (yr_float rfl (.inr (.inr (.inl rfl))) rfl rfl) ?_
  refine VL.r (.inl rfl) rfl (by decide) (yr_float rfl (.inr (.inl rfl)) rfl rfl) ?_
  refine VL.r (.inl rfl) rfl (by decide) (yr_fieldAddr rfl Try.underlying32 rfl rfl sz22_Vec (by decide) rfl) ?_
  refine VL.q (.inl rfl) rfl (by decide) (yq_load rfl fb22_Vec rfl (by first | exact Sees.root (by assumption) | exact Sees.own (by repeat (first | exact List.mem_cons_self | exact List.mem_append_left _ (by assumption) | apply List.mem_cons_of_mem | apply List.mem_append_right)) | exact Sees.root (hR _ (by omega)) | exact Sees.own (RowsIn.mem (by repeat (first | exact RowsIn.here | exact RowsIn.last | apply RowsIn.there | apply RowsIn.thereS)) _ (by omega)) | exact Sees.own (WRowsIn.mem (by repeat (first | exact WRowsIn.here | exact WRowsIn.last | apply WRowsIn.there | apply WRowsIn.thereS)) _ (by omega))) rfl) ?_
  refine VL.r (.inl rfl) rfl (by decide) (yr_fieldAddr rfl Try.underlying32 rfl rfl sz22_Vec (by decide) rfl) ?_
  refine VL.q (.inl rfl) rfl (by decide) (yq_load rfl fb22_Vec rfl (by first | exact Sees.root (by assumption) | exact Sees.own (by repeat (first | exact List.mem_cons_self | exact List.mem_append_left _ (by assumption) | apply List.mem_cons_of_mem | apply List.mem_append_right)) | exact Sees.root (hR _ (by omega)) | exact Sees.own (RowsIn.mem (by repeat (first | exact RowsIn.here | exact RowsIn.last | apply RowsIn.there | apply RowsIn.thereS)) _ (by omega)) | exact Sees.own (WRowsIn.mem (by repeat (first | exact WRowsIn.here | exact WRowsIn.last | apply WRowsIn.there | apply WRowsIn.thereS)) _ (by omega))) rfl) ?_
  refine VL.r (.inl rfl) rfl (by decide) (yr_float rfl (.inr (.inr (.inl rfl))) rfl rfl) ?_
  refine VL.r (.inl rfl) rfl (by decide) (yr_fieldAddr rfl Try.underlying32 rfl rfl sz22_Vec (by decide) rfl) ?_
  refine VL.q (.inl rfl) rfl (by decide) (yq_load rfl fb22_Vec rfl (by first | exact Sees.root (by assumption) | exact Sees.own (by repeat (first | exact List.mem_cons_self | exact List.mem_append_left _ (by assumption) | apply List.mem_cons_of_mem | apply List.mem_append_right)) | exact Sees.root (hR _ (by omega)) | exact Sees.own (RowsIn.mem (by repeat (first | exact RowsIn.here | exact RowsIn.last | apply RowsIn.there | apply RowsIn.thereS)) _ (by omega)) | exact Sees.own (WRowsIn.mem (by repeat (first | exact WRowsIn.here | exact WRowsIn.last | apply WRowsIn.there | apply WRowsIn.thereS)) _ (by omega))) rfl) ?_
  refine VL.r (.inl rfl) rfl (by decide) (yr_fieldAddr rfl Try.underlying32 rfl rfl sz22_Vec (by decide) rfl) ?_
  refine VL.q (.inl rfl) rfl (by decide) (yq_load rfl fb22_Vec rfl (by first | exact Sees.root (by assumption) | exact Sees.own (by repeat (first | exact List.mem_cons_self | exact List.mem_append_left _ (by assumption) | apply List.mem_cons_of_mem | apply List.mem_append_right)) | exact Sees.root (hR _ (by omega)) | exact Sees.own (RowsIn.mem (by repeat (first | exact RowsIn.here | exact RowsIn.last | apply RowsIn.there | apply RowsIn.thereS)) _ (by omega)) | exact Sees.own (WRowsIn.mem (by repeat (first | exact WRowsIn.here | exact WRowsIn.last | apply WRowsIn.there | apply WRowsIn.thereS)) _ (by omega))) rfl) ?_
  refine VL.r (.inl rfl) rfl (by decide) (yr_float rfl (.inr (.inr (.inl rfl))) rfl rfl) ?_
  refine VL.r (.inl rfl) rfl (by decide) (yr_float rfl (.inr (.inl rfl)) rfl rfl) ?_
  refine VL.r (.inl rfl) rfl (by decide) (yr_build rfl lay32_Vec rfl (.cons rfl (.cons rfl (.cons rfl .nil))) (by first | (simp; done) | (simp [vv]; done) | (simp [cn, cn1, cn0]; done)) rfl) ?_
  refine VL.s (.inl rfl) rfl (yc_store rfl sz32_Vec rfl rfl (by repeat (first | exact UpdF.here | apply UpdF.there | apply UpdF.thereS)) (.inr ⟨rfl, rfl⟩) rfl (by first | exact Nat.le_of_ble_eq_true rfl | simp) (by decide) rfl) ?_
  rintro ⟨⟩
  refine VL.nil ?_
  refine VE.then_wp ?_
  refine V.ret ?_
  refine retC rfl (rv_cellS rfl Try.underlying32 sz32_Vec (by first | exact Sees.root (by assumption) | exact Sees.own (by repeat (first | exact List.mem_cons_self | exact List.mem_append_left _ (by assumption) | apply List.mem_cons_of_mem | apply List.mem_append_right)) | exact Sees.root (hR _ (by omega)) | exact Sees.own (RowsIn.mem (by repeat (first | exact RowsIn.here | exact RowsIn.last | apply RowsIn.there | apply RowsIn.thereS)) _ (by omega)) | exact Sees.own (WRowsIn.mem (by repeat (first | exact WRowsIn.here | exact WRowsIn.last | apply WRowsIn.there | apply WRowsIn.thereS)) _ (by omega))) rfl rfl rfl) (by nofun) (fun w1 hw => ?_)
  exact ⟨rfl, hw.below⟩

theorem c_long3 {w : World} {x1 x2 x3 : Nat} : Pure Try.prog 137 [vv (x1, x2, x3)] w (.float .f32 (long3 (x1, x2, x3))) := by
  refine Pure.enter Try.func137 rfl Try.ntmps137 (Nat.le_of_ble_eq_true rfl) ?_
  refine V.seq ?_
  refine V.region ?_
  refine VL.new1 (.inl rfl) rfl (by decide) (yn_box rfl rfl (.inr ⟨rfl, rfl⟩)) ?_
  intro b1
  refine VL.r (.inl rfl) rfl (by decide) (yr_assign (u := .float .f32 0) rfl rfl) ?_
  refine VL.nil ?_
  refine VE.then_wp ?_
  refine V.seq ?_
  refine V.region ?_
  refine VL.q (.inl rfl) rfl (by decide) (yq_loadS rfl Try.underlying32 sz32_Vec rfl (by first | exact Sees.root (by assumption) | exact Sees.own (by repeat (first | exact List.mem_cons_self | exact List.mem_append_left _ (by assumption) | apply List.mem_cons_of_mem | apply List.mem_append_right)) | exact Sees.root (hR _ (by omega)) | exact Sees.own (RowsIn.mem (by repeat (first | exact RowsIn.here | exact RowsIn.last | apply RowsIn.there | apply RowsIn.thereS)) _ (by omega)) | exact Sees.own (WRowsIn.mem (by repeat (first | exact WRowsIn.here | exact WRowsIn.last | apply WRowsIn.there | apply WRowsIn.thereS)) _ (by omega))) rfl rfl rfl) ?_
  refine VL.q (.inl rfl) rfl (by decide) (yq_loadS rfl Try.underlying32 sz32_Vec rfl (by first | exact Sees.root (by assumption) | exact Sees.own (by repeat (first | exact List.mem_cons_self | exact List.mem_append_left _ (by assumption) | apply List.mem_cons_of_mem | apply List.mem_append_right)) | exact Sees.root (hR _ (by omega)) | exact Sees.own (RowsIn.mem (by repeat (first | exact RowsIn.here | exact RowsIn.last | apply RowsIn.there | apply RowsIn.thereS)) _ (by omega)) | exact Sees.own (WRowsIn.mem (by repeat (first | exact WRowsIn.here | exact WRowsIn.last | apply WRowsIn.there | apply WRowsIn.thereS)) _ (by omega))) rfl rfl rfl) ?_
  refine VL.q (.inl rfl) rfl (by decide) (yq_callf rfl known188_Vec (.cons rfl (.cons rfl .nil)) (fun w hw => c_inner3)) ?_
  refine VL.q (.inl rfl) rfl (by decide) (yq_callf rfl known187_Vec (.cons rfl .nil) (fun w hw => c_RootNumber _)) ?_
  refine VL.r (.inl rfl) rfl (by decide) (yr_assign rfl rfl) ?_
  refine VL.nil ?_
  refine VE.then_wp ?_
  refine V.ret ?_
  refine ret1 rfl rfl (fun w1 hw => ?_)
  exact ⟨rfl, hw.below⟩

theorem c_long3S {w : World} {x1 x2 x3 : Nat} : Pure Try.prog 131 [vv (x1, x2, x3)] w (.float .f32 (long3 (x1, x2, x3))) := by
  refine Pure.enter Try.func131 rfl Try.ntmps131 (Nat.le_of_ble_eq_true rfl) ?_
  refine V.seq ?_
  refine V.region ?_
  refine VL.new1 (.inl rfl) rfl (by decide) (yn_box rfl rfl (.inr ⟨rfl, rfl⟩)) ?_
  intro b1
  refine VL.r (.inl rfl) rfl (by decide) (yr_assign (u := .float .f32 0) rfl rfl) ?_
  refine VL.nil ?_
  refine VE.then_wp ?_
  refine V.seq ?_
  refine V.region ?_
  refine VL.q (.inl rfl) rfl (by decide) (yq_loadS rfl Try.underlying32 sz32_Vec rfl (by first | exact Sees.root (by assumption) | exact Sees.own (by repeat (first | exact List.mem_cons_self | exact List.mem_append_left _ (by assumption) | apply List.mem_cons_of_mem | apply List.mem_append_right)) | exact Sees.root (hR _ (by omega)) | exact Sees.own (RowsIn.mem (by repeat (first | exact RowsIn.here | exact RowsIn.last | apply RowsIn.there | apply RowsIn.thereS)) _ (by omega)) | exact Sees.own (WRowsIn.mem (by repeat (first | exact WRowsIn.here | exact WRowsIn.last | apply WRowsIn.there | apply WRowsIn.thereS)) _ (by omega))) rfl rfl rfl) ?_
  refine VL.q (.inl rfl) rfl (by decide) (yq_loadS rfl Try.underlying32 sz32_Vec rfl (by first | exact Sees.root (by assumption) | exact Sees.own (by repeat (first | exact List.mem_cons_self | exact List.mem_append_left _ (by assumption) | apply List.mem_cons_of_mem | apply List.mem_append_right)) | exact Sees.root (hR _ (by omega)) | exact Sees.own (RowsIn.mem (by repeat (first | exact RowsIn.here | exact RowsIn.last | apply RowsIn.there | apply RowsIn.thereS)) _ (by omega)) | exact Sees.own (WRowsIn.mem (by repeat (first | exact WRowsIn.here | exact WRowsIn.last | apply WRowsIn.there | apply WRowsIn.thereS)) _ (by omega))) rfl rfl rfl) ?_
  refine VL.q (.inl rfl) rfl (by decide) (yq_callf rfl known183_Vec (.cons rfl (.cons rfl .nil)) (fun w hw => c_inner3S)) ?_
  refine VL.q (.inl rfl) rfl (by decide) (yq_callf rfl known182_Vec (.cons rfl .nil) (fun w hw => c_l01Sqrt _)) ?_
  refine VL.r (.inl rfl) rfl (by decide) (yr_assign rfl rfl) ?_
  refine VL.nil ?_
  refine VE.then_wp ?_
  refine V.ret ?_
  refine ret1 rfl rfl (fun w1 hw => ?_)
  exact ⟨rfl, hw.below⟩

theorem c_fin3 {w : World} {x1 x2 x3 : Nat} : Pure Try.prog 136 [vv (x1, x2, x3)] w (.bool (fin3 (x1, x2, x3))) := by
  refine Pure.enter Try.func136 rfl Try.ntmps136 (Nat.le_of_ble_eq_true rfl) ?_
  refine V.seq ?_
  refine V.region ?_
  refine VL.new1 (.inl rfl) rfl (by decide) (yn_box rfl rfl (.inr ⟨rfl, rfl⟩)) ?_
  intro b1
  refine VL.r (.inl rfl) rfl (by decide) (yr_assign (u := .bool false) rfl rfl) ?_
  refine VL.nil ?_
  refine VE.then_wp ?_
  refine V.seq ?_
  refine V.region ?_
  refine VL.r (.inl rfl) rfl (by decide) (yr_fieldAddr rfl Try.underlying32 rfl rfl sz22_Vec (by decide) rfl) ?_
  refine VL.q (.inl rfl) rfl (by decide) (yq_load rfl fb22_Vec rfl (by first | exact Sees.root (by assumption) | exact Sees.own (by repeat (first | exact List.mem_cons_self | exact List.mem_append_left _ (by assumption) | apply List.mem_cons_of_mem | apply List.mem_append_right)) | exact Sees.root (hR _ (by omega)) | exact Sees.own (RowsIn.mem (by repeat (first | exact RowsIn.here | exact RowsIn.last | apply RowsIn.there | apply RowsIn.thereS)) _ (by omega)) | exact Sees.own (WRowsIn.mem (by repeat (first | exact WRowsIn.here | exact WRowsIn.last | apply WRowsIn.there | apply WRowsIn.thereS)) _ (by omega))) rfl) ?_
  refine VL.q (.inl rfl) rfl (by decide) (yq_callf rfl known150_Vec (.cons rfl .nil) (fun w hw => c_IsFinite _)) ?_
  refine VL.r (.inl rfl) rfl (by decide) (yr_move rfl rfl) ?_
  refine VX.split 6 _ rfl (fun h1 => ?_) (fun h1 => ?_)
  · skip
    refine VL.r (.inr ⟨_, _, _, rfl, rfl, rfl⟩) rfl (by decide) (yr_fieldAddr rfl Try.underlying32 rfl rfl sz22_Vec (by decide) rfl) ?_
    refine VL.q (.inr ⟨_, _, _, rfl, rfl, rfl⟩) rfl (by decide) (yq_load rfl fb22_Vec rfl (by first | exact Sees.root (by assumption) | exact Sees.own (by repeat (first | exact List.mem_cons_self | exact List.mem_append_left _ (by assumption) | apply List.mem_cons_of_mem | apply List.mem_append_right)) | exact Sees.root (hR _ (by omega)) | exact Sees.own (RowsIn.mem (by repeat (first | exact RowsIn.here | exact RowsIn.last | apply RowsIn.there | apply RowsIn.thereS)) _ (by omega)) | exact Sees.own (WRowsIn.mem (by repeat (first | exact WRowsIn.here | exact WRowsIn.last | apply WRowsIn.there | apply WRowsIn.thereS)) _ (by omega))) rfl) ?_
    refine VL.q (.inr ⟨_, _, _, rfl, rfl, rfl⟩) rfl (by decide) (yq_callf rfl known150_Vec (.cons rfl .nil) (fun w hw => c_IsFinite _)) ?_
    refine VL.r (.inl rfl) rfl (by decide) (yr_pick_t rfl rfl rfl) ?_
    refine VL.r (.inl rfl) rfl (by decide) (yr_move rfl rfl) ?_
    refine VX.split 11 _ rfl (fun h2 => ?_) (fun h2 => ?_)
    · skip
      refine VL.r (.inr ⟨_, _, _, rfl, rfl, rfl⟩) rfl (by decide) (yr_fieldAddr rfl Try.underlying32 rfl rfl sz22_Vec (by decide) rfl) ?_
      refine VL.q (.inr ⟨_, _, _, rfl, rfl, rfl⟩) rfl (by decide) (yq_load rfl fb22_Vec rfl (by first | exact Sees.root (by assumption) | exact Sees.own (by repeat (first | exact List.mem_cons_self | exact List.mem_append_left _ (by assumption) | apply List.mem_cons_of_mem | apply List.mem_append_right)) | exact Sees.root (hR _ (by omega)) | exact Sees.own (RowsIn.mem (by repeat (first | exact RowsIn.here | exact RowsIn.last | apply RowsIn.there | apply RowsIn.thereS)) _ (by omega)) | exact Sees.own (WRowsIn.mem (by repeat (first | exact WRowsIn.here | exact WRowsIn.last | apply WRowsIn.there | apply WRowsIn.thereS)) _ (by omega))) rfl) ?_
      refine VL.q (.inr ⟨_, _, _, rfl, rfl, rfl⟩) rfl (by decide) (yq_callf rfl known150_Vec (.cons rfl .nil) (fun w hw => c_IsFinite _)) ?_
      refine VL.r (.inl rfl) rfl (by decide) (yr_pick_t rfl rfl rfl) ?_
      refine VL.r (.inl rfl) rfl (by decide) (yr_assign rfl rfl) ?_
      refine VL.nil ?_
      refine VE.then_wp ?_
      refine V.ret ?_
      refine ret1 rfl rfl (fun w1 hw => ?_)
      first
        | (exact ⟨congrArg Value.bool (fin3_t (a := (x1, x2, x3)) (by assumption) (by assumption)), hw.below⟩)
        | (exact ⟨congrArg Value.bool (fin3_f1 (a := (x1, x2, x3)) (by assumption)), hw.below⟩)
        | (exact ⟨congrArg Value.bool (fin3_f2 (a := (x1, x2, x3)) (by assumption) (by assumption)), hw.below⟩)
    · skip
      refine VL.no rfl rfl rfl rfl rfl (by decide) ?_
      refine VL.no rfl rfl rfl rfl rfl (by decide) ?_
      refine VL.no rfl rfl rfl rfl rfl (by decide) ?_
      refine VL.r (.inl rfl) rfl (by decide) (yr_pick_f (u := .bool false) rfl rfl rfl) ?_
      refine VL.r (.inl rfl) rfl (by decide) (yr_assign rfl rfl) ?_
      refine VL.nil ?_
      refine VE.then_wp ?_
      refine V.ret ?_
      refine ret1 rfl rfl (fun w1 hw => ?_)
      first
        | (exact ⟨congrArg Value.bool (fin3_t (a := (x1, x2, x3)) (by assumption) (by assumption)), hw.below⟩)
        | (exact ⟨congrArg Value.bool (fin3_f1 (a := (x1, x2, x3)) (by assumption)), hw.below⟩)
        | (exact ⟨congrArg Value.bool (fin3_f2 (a := (x1, x2, x3)) (by assumption) (by assumption)), hw.below⟩)
  · skip
    refine VL.no rfl rfl rfl rfl rfl (by decide) ?_
    refine VL.no rfl rfl rfl rfl rfl (by decide) ?_
    refine VL.no rfl rfl rfl rfl rfl (by decide) ?_
    refine VL.r (.inl rfl) rfl (by decide) (yr_pick_f (u := .bool false) rfl rfl rfl) ?_
    refine VL.r (.inl rfl) rfl (by decide) (yr_move rfl rfl) ?_
    refine VL.no rfl rfl rfl rfl rfl (by decide) ?_
    refine VL.no rfl rfl rfl rfl rfl (by decide) ?_
    refine VL.no rfl rfl rfl rfl rfl (by decide) ?_
    refine VL.r (.inl rfl) rfl (by decide) (yr_pick_f (u := .bool false) rfl rfl rfl) ?_
    refine VL.r (.inl rfl) rfl (by decide) (yr_assign rfl rfl) ?_
    refine VL.nil ?_
    refine VE.then_wp ?_
    refine V.ret ?_
    refine ret1 rfl rfl (fun w1 hw => ?_)
    first
      | (exact ⟨congrArg Value.bool (fin3_t (a := (x1, x2, x3)) (by assumption) (by assumption)), hw.below⟩)
      | (exact ⟨congrArg Value.bool (fin3_f1 (a := (x1, x2, x3)) (by assumption)), hw.below⟩)
      | (exact ⟨congrArg Value.bool (fin3_f2 (a := (x1, x2, x3)) (by assumption) (by assumption)), hw.below⟩)

theorem c_fin3S {w : World} {x1 x2 x3 : Nat} : Pure Try.prog 117 [vv (x1, x2, x3)] w (.bool (fin3 (x1, x2, x3))) := by
  refine Pure.enter Try.func117 rfl Try.ntmps117 (Nat.le_of_ble_eq_true rfl) ?_
  refine V.seq ?_
  refine V.region ?_
  refine VL.new1 (.inl rfl) rfl (by decide) (yn_box rfl rfl (.inr ⟨rfl, rfl⟩)) ?_
  intro b1
  refine VL.r (.inl rfl) rfl (by decide) (yr_assign (u := .bool false) rfl rfl) ?_
  refine VL.nil ?_
  refine VE.then_wp ?_
  refine V.seq ?_
  refine V.region ?_
  refine VL.r (.inl rfl) rfl (by decide) (yr_fieldAddr rfl Try.underlying32 rfl rfl sz22_Vec (by decide) rfl) ?_
  refine VL.q (.inl rfl) rfl (by decide) (yq_load rfl fb22_Vec rfl (by first | exact Sees.root (by assumption) | exact Sees.own (by repeat (first | exact List.mem_cons_self | exact List.mem_append_left _ (by assumption) | apply List.mem_cons_of_mem | apply List.mem_append_right)) | exact Sees.root (hR _ (by omega)) | exact Sees.own (RowsIn.mem (by repeat (first | exact RowsIn.here | exact RowsIn.last | apply RowsIn.there | apply RowsIn.thereS)) _ (by omega)) | exact Sees.own (WRowsIn.mem (by repeat (first | exact WRowsIn.here | exact WRowsIn.last | apply WRowsIn.there | apply WRowsIn.thereS)) _ (by omega))) rfl) ?_
  refine VL.q (.inl rfl) rfl (by decide) (yq_callf rfl known64_Vec (.cons rfl .nil) (fun w hw => c_l01Finite _)) ?_
  refine VL.r (.inl rfl) rfl (by decide) (yr_move rfl rfl) ?_
  refine VX.split 6 _ rfl (fun h1 => ?_) (fun h1 => ?_)
  · skip
    refine VL.r (.inr ⟨_, _, _, rfl, rfl, rfl⟩) rfl (by decide) (yr_fieldAddr rfl Try.underlying32 rfl rfl sz22_Vec (by decide) rfl) ?_
    refine VL.q (.inr ⟨_, _, _, rfl, rfl, rfl⟩) rfl (by decide) (yq_load rfl fb22_Vec rfl (by first | exact Sees.root (by assumption) | exact Sees.own (by repeat (first | exact List.mem_cons_self | exact List.mem_append_left _ (by assumption) | apply List.mem_cons_of_mem | apply List.mem_append_right)) | exact Sees.root (hR _ (by omega)) | exact Sees.own (RowsIn.mem (by repeat (first | exact RowsIn.here | exact RowsIn.last | apply RowsIn.there | apply RowsIn.thereS)) _ (by omega)) | exact Sees.own (WRowsIn.mem (by repeat (first | exact WRowsIn.here | exact WRowsIn.last | apply WRowsIn.there | apply WRowsIn.thereS)) _ (by omega))) rfl) ?_
    refine VL.q (.inr ⟨_, _, _, rfl, rfl, rfl⟩) rfl (by decide) (yq_callf rfl known64_Vec (.cons rfl .nil) (fun w hw => c_l01Finite _)) ?_
    refine VL.r (.inl rfl) rfl (by decide) (yr_pick_t rfl rfl rfl) ?_
    refine VL.r (.inl rfl) rfl (by decide) (yr_move rfl rfl) ?_
    refine VX.split 11 _ rfl (fun h2 => ?_) (fun h2 => ?_)
    · skip
      refine VL.r (.inr ⟨_, _, _, rfl, rfl, rfl⟩) rfl (by decide) (yr_fieldAddr rfl Try.underlying32 rfl rfl sz22_Vec (by decide) rfl) ?_
      refine VL.q (.inr ⟨_, _, _, rfl, rfl, rfl⟩) rfl (by decide) (yq_load rfl fb22_Vec rfl (by first | exact Sees.root (by assumption) | exact Sees.own (by repeat (first | exact List.mem_cons_self | exact List.mem_append_left _ (by assumption) | apply List.mem_cons_of_mem | apply List.mem_append_right)) | exact Sees.root (hR _ (by omega)) | exact Sees.own (RowsIn.mem (by repeat (first | exact RowsIn.here | exact RowsIn.last | apply RowsIn.there | apply RowsIn.thereS)) _ (by omega)) | exact Sees.own (WRowsIn.mem (by repeat (first | exact WRowsIn.here | exact WRowsIn.last | apply WRowsIn.there | apply WRowsIn.thereS)) _ (by omega))) rfl) ?_
      refine VL.q (.inr ⟨_, _, _, rfl, rfl, rfl⟩) rfl (by decide) (yq_callf rfl known64_Vec (.cons rfl .nil) (fun w hw => c_l01Finite _)) ?_
      refine VL.r (.inl rfl) rfl (by decide) (yr_pick_t rfl rfl rfl) ?_
      refine VL.r (.inl rfl) rfl (by decide) (yr_assign rfl rfl) ?_
      refine VL.nil ?_
      refine VE.then_wp ?_
      refine V.ret ?_
      refine ret1 rfl rfl (fun w1 hw => ?_)
      first
        | (exact ⟨congrArg Value.bool (fin3_t (a := (x1, x2, x3)) (by assumption) (by assumption)), hw.below⟩)
        | (exact ⟨congrArg Value.bool (fin3_f1 (a := (x1, x2, x3)) (by assumption)), hw.below⟩)
        | (exact ⟨congrArg Value.bool (fin3_f2 (a := (x1, x2, x3)) (by assumption) (by assumption)), hw.below⟩)
    · skip
      refine VL.no rfl rfl rfl rfl rfl (by decide) ?_
      refine VL.no rfl rfl rfl rfl rfl (by decide) ?_
      refine VL.no rfl rfl rfl rfl rfl (by decide) ?_
      refine VL.r (.inl rfl) rfl (by decide) (yr_pick_f (u := .bool false) rfl rfl rfl) ?_
      refine VL.r (.inl rfl) rfl (by decide) (yr_assign rfl rfl) ?_
      refine VL.nil ?_
      refine VE.then_wp ?_
      refine V.ret ?_
      refine ret1 rfl rfl (fun w1 hw => ?_)
      first
        | (exact ⟨congrArg Value.bool (fin3_t (a := (x1, x2, x3)) (by assumption) (by assumption)), hw.below⟩)
        | (exact ⟨congrArg Value.bool (fin3_f1 (a := (x1, x2, x3)) (by assumption)), hw.below⟩)
        | (exact ⟨congrArg Value.bool (fin3_f2 (a := (x1, x2, x3)) (by assumption) (by assumption)), hw.below⟩)
  · skip
    refine VL.no rfl rfl rfl rfl rfl (by decide) ?_
    refine VL.no rfl rfl rfl rfl rfl (by decide) ?_
    refine VL.no rfl rfl rfl rfl rfl (by decide) ?_
    refine VL.r (.inl rfl) rfl (by decide) (yr_pick_f (u := .bool false) rfl rfl rfl) ?_
    refine VL.r (.inl rfl) rfl (by decide) (yr_move rfl rfl) ?_
    refine VL.no rfl rfl rfl rfl rfl (by decide) ?_
    refine VL.no rfl rfl rfl rfl rfl (by decide) ?_
    refine VL.no rfl rfl rfl rfl rfl (by decide) ?_
    refine VL.r (.inl rfl) rfl (by decide) (yr_pick_f (u := .bool false) rfl rfl rfl) ?_
    refine VL.r (.inl rfl) rfl (by decide) (yr_assign rfl rfl) ?_
    refine VL.nil ?_
    refine VE.then_wp ?_
    refine V.ret ?_
    refine ret1 rfl rfl (fun w1 hw => ?_)
    first
      | (exact ⟨congrArg Value.bool (fin3_t (a := (x1, x2, x3)) (by assumption) (by assumption)), hw.below⟩)
      | (exact ⟨congrArg Value.bool (fin3_f1 (a := (x1, x2, x3)) (by assumption)), hw.below⟩)
      | (exact ⟨congrArg Value.bool (fin3_f2 (a := (x1, x2, x3)) (by assumption) (by assumption)), hw.below⟩)

theorem c_segF {w : World} {x1 x2 x3 y1 y2 y3 z1 z2 z3 : Nat} : Pure Try.prog 216 [vv (x1, x2, x3), vv (y1, y2, y3), vv (z1, z2, z3)] w (vv (segF (x1, x2, x3) (y1, y2, y3) (z1, z2, z3))) := by
  refine Pure.enter Try.func216 rfl Try.ntmps216 (Nat.le_of_ble_eq_true rfl) ?_
  refine V.seq ?_
  refine V.region ?_
  refine VL.new1 (.inl rfl) rfl (by decide) (yn_box rfl rfl (.inr ⟨rfl, rfl⟩)) ?_
  intro b3
  refine VL.new1 (.inl rfl) rfl (by decide) (yn_box rfl rfl (.inr ⟨rfl, rfl⟩)) ?_
  intro b4
  refine VL.new1 (.inl rfl) rfl (by decide) (yn_box rfl rfl (.inr ⟨rfl, rfl⟩)) ?_
  intro b5
  refine VL.new1 (.inl rfl) rfl (by decide) (yn_alloc rfl zero32_Vec rfl) ?_
  intro b6
  refine VL.nil ?_
  refine VE.then_wp ?_
  refine V.seq ?_
  refine Dr.V.drawR [(0, 5), (1, 5), (2, 5), (3, 5), (4, 5), (5, 5), (6, 2), (7, 2), (8, 3), (9, 3)] [(6, ((fun b => .pointer (some (adr (some ⟨b, 0, none⟩) 0))), (fun b => ⟨some ⟨b, 0, none⟩, [Value.float .f32 0, Value.float .f32 0, Value.float .f32 0], 3, 32⟩))), (7, ((fun b => .pointer (some (adr (some ⟨b, 0, none⟩) 0))), (fun b => ⟨some ⟨b, 0, none⟩, [Value.float .f32 0, Value.float .f32 0, Value.float .f32 0], 3, 32⟩)))] [] _ mixed_Vec (by kernel_rfl) (fun w hw => hw) ?_
  refine Dr.SW.p rfl (.inl rfl) rfl (by decide) (yq_loadS rfl Try.underlying32 sz32_Vec rfl (by first | exact Sees.root (by assumption) | exact Sees.own (by (try simp only [List.append_assoc, List.cons_append, List.nil_append]); repeat (first | exact List.mem_cons_self | exact List.mem_append_left _ (by assumption) | apply List.mem_cons_of_mem | apply List.mem_append_right)) | exact Sees.root (hR _ (by omega)) | exact Sees.own (RowsIn.mem (by (try simp only [List.append_assoc, List.cons_append, List.nil_append]); repeat (first | exact RowsIn.here | exact RowsIn.last | apply RowsIn.there | apply RowsIn.thereS)) _ (by omega)) | exact Sees.own (WRowsIn.mem (by (try simp only [List.append_assoc, List.cons_append, List.nil_append]); repeat (first | exact WRowsIn.here | exact WRowsIn.last | apply WRowsIn.there | apply WRowsIn.thereS)) _ (by omega))) rfl rfl rfl) ?_
  refine Dr.SW.p rfl (.inl rfl) rfl (by decide) (yq_loadS rfl Try.underlying32 sz32_Vec rfl (by first | exact Sees.root (by assumption) | exact Sees.own (by (try simp only [List.append_assoc, List.cons_append, List.nil_append]); repeat (first | exact List.mem_cons_self | exact List.mem_append_left _ (by assumption) | apply List.mem_cons_of_mem | apply List.mem_append_right)) | exact Sees.root (hR _ (by omega)) | exact Sees.own (RowsIn.mem (by (try simp only [List.append_assoc, List.cons_append, List.nil_append]); repeat (first | exact RowsIn.here | exact RowsIn.last | apply RowsIn.there | apply RowsIn.thereS)) _ (by omega)) | exact Sees.own (WRowsIn.mem (by (try simp only [List.append_assoc, List.cons_append, List.nil_append]); repeat (first | exact WRowsIn.here | exact WRowsIn.last | apply WRowsIn.there | apply WRowsIn.thereS)) _ (by omega))) rfl rfl rfl) ?_
  refine Dr.SW.p rfl (.inl rfl) rfl (by decide) (yq_callf rfl known138_Vec (.cons rfl (.cons rfl .nil)) (fun w hw => c_sub3)) ?_
  refine Dr.SW.p rfl (.inl rfl) rfl (by decide) (yq_loadS rfl Try.underlying32 sz32_Vec rfl (by first | exact Sees.root (by assumption) | exact Sees.own (by (try simp only [List.append_assoc, List.cons_append, List.nil_append]); repeat (first | exact List.mem_cons_self | exact List.mem_append_left _ (by assumption) | apply List.mem_cons_of_mem | apply List.mem_append_right)) | exact Sees.root (hR _ (by omega)) | exact Sees.own (RowsIn.mem (by (try simp only [List.append_assoc, List.cons_append, List.nil_append]); repeat (first | exact RowsIn.here | exact RowsIn.last | apply RowsIn.there | apply RowsIn.thereS)) _ (by omega)) | exact Sees.own (WRowsIn.mem (by (try simp only [List.append_assoc, List.cons_append, List.nil_append]); repeat (first | exact WRowsIn.here | exact WRowsIn.last | apply WRowsIn.there | apply WRowsIn.thereS)) _ (by omega))) rfl rfl rfl) ?_
  refine Dr.SW.p rfl (.inl rfl) rfl (by decide) (yq_loadS rfl Try.underlying32 sz32_Vec rfl (by first | exact Sees.root (by assumption) | exact Sees.own (by (try simp only [List.append_assoc, List.cons_append, List.nil_append]); repeat (first | exact List.mem_cons_self | exact List.mem_append_left _ (by assumption) | apply List.mem_cons_of_mem | apply List.mem_append_right)) | exact Sees.root (hR _ (by omega)) | exact Sees.own (RowsIn.mem (by (try simp only [List.append_assoc, List.cons_append, List.nil_append]); repeat (first | exact RowsIn.here | exact RowsIn.last | apply RowsIn.there | apply RowsIn.thereS)) _ (by omega)) | exact Sees.own (WRowsIn.mem (by (try simp only [List.append_assoc, List.cons_append, List.nil_append]); repeat (first | exact WRowsIn.here | exact WRowsIn.last | apply WRowsIn.there | apply WRowsIn.thereS)) _ (by omega))) rfl rfl rfl) ?_
  refine Dr.SW.p rfl (.inl rfl) rfl (by decide) (yq_callf rfl known138_Vec (.cons rfl (.cons rfl .nil)) (fun w hw => c_sub3)) ?_
  refine Dr.SW.a rfl rfl rfl (by decide) rfl (fun w0 => (yn_alloc rfl zero32_Vec rfl)) ?_
  intro b7
  refine Dr.SW.a rfl rfl rfl (by decide) rfl (fun w0 => (yn_alloc rfl zero32_Vec rfl)) ?_
  intro b8
  refine Dr.SW.s rfl (.inl rfl) rfl (yc_store rfl sz32_Vec rfl rfl (Dr.UpdF.app (by repeat (first | exact UpdF.here | apply UpdF.there | apply UpdF.thereS))) (.inr ⟨rfl, rfl⟩) rfl (by first | exact Nat.le_of_ble_eq_true rfl | simp) (by decide) rfl) ?_
  rintro ⟨⟩
  refine Dr.SW.s rfl (.inl rfl) rfl (yc_store rfl sz32_Vec rfl rfl (Dr.UpdF.app (by repeat (first | exact UpdF.here | apply UpdF.there | apply UpdF.thereS))) (.inr ⟨rfl, rfl⟩) rfl (by first | exact Nat.le_of_ble_eq_true rfl | simp) (by decide) rfl) ?_
  rintro ⟨⟩
  refine Dr.SW.done ?_
  refine Dr.eqO (by simp only [List.append_nil, List.append_assoc, List.cons_append, List.nil_append] <;> rfl) ?_
  refine VE.then_wp ?_
  refine V.seq ?_
  refine Dr.V.drawR [(0, 5), (1, 5), (2, 5), (3, 5), (4, 5), (5, 5)] [] [] _ mixed_Vec (by kernel_rfl) (fun w hw => hw) ?_
  refine Dr.SW.p rfl (.inl rfl) rfl (by decide) (yq_loadS rfl Try.underlying32 sz32_Vec rfl (by first | exact Sees.root (by assumption) | exact Sees.own (by (try simp only [List.append_assoc, List.cons_append, List.nil_append]); repeat (first | exact List.mem_cons_self | exact List.mem_append_left _ (by assumption) | apply List.mem_cons_of_mem | apply List.mem_append_right)) | exact Sees.root (hR _ (by omega)) | exact Sees.own (RowsIn.mem (by (try simp only [List.append_assoc, List.cons_append, List.nil_append]); repeat (first | exact RowsIn.here | exact RowsIn.last | apply RowsIn.there | apply RowsIn.thereS)) _ (by omega)) | exact Sees.own (WRowsIn.mem (by (try simp only [List.append_assoc, List.cons_append, List.nil_append]); repeat (first | exact WRowsIn.here | exact WRowsIn.last | apply WRowsIn.there | apply WRowsIn.thereS)) _ (by omega))) rfl rfl rfl) ?_
  refine Dr.SW.p rfl (.inl rfl) rfl (by decide) (yq_callf rfl known137_Vec (.cons rfl .nil) (fun w hw => c_long3)) ?_
  refine Dr.SW.p rfl (.inl rfl) rfl (by decide) (yq_loadS rfl Try.underlying32 sz32_Vec rfl (by first | exact Sees.root (by assumption) | exact Sees.own (by (try simp only [List.append_assoc, List.cons_append, List.nil_append]); repeat (first | exact List.mem_cons_self | exact List.mem_append_left _ (by assumption) | apply List.mem_cons_of_mem | apply List.mem_append_right)) | exact Sees.root (hR _ (by omega)) | exact Sees.own (RowsIn.mem (by (try simp only [List.append_assoc, List.cons_append, List.nil_append]); repeat (first | exact RowsIn.here | exact RowsIn.last | apply RowsIn.there | apply RowsIn.thereS)) _ (by omega)) | exact Sees.own (WRowsIn.mem (by (try simp only [List.append_assoc, List.cons_append, List.nil_append]); repeat (first | exact WRowsIn.here | exact WRowsIn.last | apply WRowsIn.there | apply WRowsIn.thereS)) _ (by omega))) rfl rfl rfl) ?_
  refine Dr.SW.p rfl (.inl rfl) rfl (by decide) (yq_callf rfl known137_Vec (.cons rfl .nil) (fun w hw => c_long3)) ?_
  refine Dr.SW.r rfl (.inl rfl) rfl (by decide) (yr_assign rfl rfl) ?_
  refine Dr.SW.r rfl (.inl rfl) rfl (by decide) (yr_assign rfl rfl) ?_
  refine Dr.SW.done ?_
  refine Dr.eqO (by simp only [List.append_nil, List.append_assoc, List.cons_append, List.nil_append] <;> rfl) ?_
  refine VE.then_wp ?_
  refine V.seq ?_
  refine V.region ?_
  refine VL.r (.inl rfl) rfl (by decide) (yr_move rfl rfl) ?_
  refine VL.r (.inl rfl) rfl (by decide) (yr_move rfl rfl) ?_
  refine VL.r (.inl rfl) rfl (by decide) (yr_float rfl (.inr (.inr (.inl rfl))) rfl rfl) ?_
  refine VL.r (.inl rfl) rfl (by decide) (yr_assign rfl rfl) ?_
  refine VL.nil ?_
  refine VE.then_wp ?_
  refine V.seq ?_
  refine V.region ?_
  refine VL.r (.inl rfl) rfl (by decide) (yr_move rfl rfl) ?_
  refine VL.r (.inl rfl) rfl (by decide) (yr_move rfl rfl) ?_
  refine VL.q (.inl rfl) rfl (by decide) (yq_loadS rfl Try.underlying32 sz32_Vec rfl (by first | exact Sees.root (by assumption) | exact Sees.own (by repeat (first | exact List.mem_cons_self | exact List.mem_append_left _ (by assumption) | apply List.mem_cons_of_mem | apply List.mem_append_right)) | exact Sees.root (hR _ (by omega)) | exact Sees.own (RowsIn.mem (by repeat (first | exact RowsIn.here | exact RowsIn.last | apply RowsIn.there | apply RowsIn.thereS)) _ (by omega)) | exact Sees.own (WRowsIn.mem (by repeat (first | exact WRowsIn.here | exact WRowsIn.last | apply WRowsIn.there | apply WRowsIn.thereS)) _ (by omega))) rfl rfl rfl) ?_
  refine VL.q (.inl rfl) rfl (by decide) (yq_loadS rfl Try.underlying32 sz32_Vec rfl (by first | exact Sees.root (by assumption) | exact Sees.own (by repeat (first | exact List.mem_cons_self | exact List.mem_append_left _ (by assumption) | apply List.mem_cons_of_mem | apply List.mem_append_right)) | exact Sees.root (hR _ (by omega)) | exact Sees.own (RowsIn.mem (by repeat (first | exact RowsIn.here | exact RowsIn.last | apply RowsIn.there | apply RowsIn.thereS)) _ (by omega)) | exact Sees.own (WRowsIn.mem (by repeat (first | exact WRowsIn.here | exact WRowsIn.last | apply WRowsIn.there | apply WRowsIn.thereS)) _ (by omega))) rfl rfl rfl) ?_
  refine VL.q (.inl rfl) rfl (by decide) (yq_callf rfl known188_Vec (.cons rfl (.cons rfl .nil)) (fun w hw => c_inner3)) ?_
  refine VL.r (.inl rfl) rfl (by decide) (yr_float rfl (.inl rfl) rfl rfl) ?_
  refine VL.r (.inl rfl) rfl (by decide) (yr_float rfl (.inr (.inr (.inl rfl))) rfl rfl) ?_
  refine VL.r (.inl rfl) rfl (by decide) (yr_assign rfl rfl) ?_
  refine VL.nil ?_
  refine VE.then_wp ?_
  refine V.seq ?_
  refine V.region ?_
  refine VL.r (.inl rfl) rfl (by decide) (yr_move rfl rfl) ?_
  refine VL.r (.inl rfl) rfl (by decide) (yr_move rfl rfl) ?_
  refine VL.r (.inl rfl) rfl (by decide) (yr_float rfl (.inl rfl) rfl rfl) ?_
  refine VL.r (.inl rfl) rfl (by decide) (yr_move rfl rfl) ?_
  refine VL.r (.inl rfl) rfl (by decide) (yr_float rfl (.inr (.inr (.inr rfl))) rfl rfl) ?_
  refine VL.r (.inl rfl) rfl (by decide) (yr_assign rfl rfl) ?_
  refine VL.nil ?_
  refine VE.then_wp ?_
  refine V.seq ?_
  refine V.seq ?_
  refine V.region ?_
  refine VL.r (.inl rfl) rfl (by decide) (yr_move rfl rfl) ?_
  refine VL.r (.inl rfl) rfl (by decide) (yr_fcmp (b := 0) rfl (.inr (.inr (.inr (.inr (.inl rfl))))) rfl rfl) ?_
  refine VL.r (.inl rfl) rfl (by decide) (yr_not rfl rfl) ?_
  refine VL.r (.inl rfl) rfl (by decide) (yr_move rfl rfl) ?_
  refine VX.split 42 _ rfl (fun h1 => ?_) (fun h1 => ?_)
  · skip
    replace h1 := bnot_t h1
    refine VL.no rfl rfl rfl rfl rfl (by decide) ?_
    refine VL.no rfl rfl rfl rfl rfl (by decide) ?_
    refine VL.no rfl rfl rfl rfl rfl (by decide) ?_
    refine VL.r (.inl rfl) rfl (by decide) (yr_pick_t (u := .bool true) rfl rfl rfl) ?_
    refine VL.nil ?_
    refine VE.then_wp ?_
    refine V.condT rfl ?_
    refine V.seq ?_
    refine V.region ?_
    refine VL.r (.inl rfl) rfl (by decide) (yr_build rfl lay32_Vec rfl .nil (by first | (simp; done) | (simp [vv]; done) | (simp [cn, cn1, cn0]; done)) rfl) ?_
    refine VL.s (.inl rfl) rfl (yc_store rfl sz32_Vec rfl rfl (by repeat (first | exact UpdF.here | apply UpdF.there | apply UpdF.thereS)) (.inr ⟨rfl, rfl⟩) rfl (by first | exact Nat.le_of_ble_eq_true rfl | simp) (by decide) rfl) ?_
    rintro ⟨⟩
    refine VL.nil ?_
    refine VE.then_wp ?_
    refine V.ret ?_
    refine VE.then_ret ?_
    refine retC rfl (rv_cellS rfl Try.underlying32 sz32_Vec (by first | exact Sees.root (by assumption) | exact Sees.own (by repeat (first | exact List.mem_cons_self | exact List.mem_append_left _ (by assumption) | apply List.mem_cons_of_mem | apply List.mem_append_right)) | exact Sees.root (hR _ (by omega)) | exact Sees.own (RowsIn.mem (by repeat (first | exact RowsIn.here | exact RowsIn.last | apply RowsIn.there | apply RowsIn.thereS)) _ (by omega)) | exact Sees.own (WRowsIn.mem (by repeat (first | exact WRowsIn.here | exact WRowsIn.last | apply WRowsIn.there | apply WRowsIn.thereS)) _ (by omega))) rfl rfl rfl) (by nofun) (fun w1 hw => ?_)
    first
      | (exact ⟨congrArg vv (segF_no1 (a := (x1, x2, x3)) (b := (y1, y2, y3)) (p := (z1, z2, z3)) (by assumption)).symm, hw.below⟩)
      | (exact ⟨congrArg vv (segF_no2 (a := (x1, x2, x3)) (b := (y1, y2, y3)) (p := (z1, z2, z3)) (by assumption) (by assumption)).symm, hw.below⟩)
      | (exact ⟨congrArg vv (segF_yes (a := (x1, x2, x3)) (b := (y1, y2, y3)) (p := (z1, z2, z3)) (by assumption) (by assumption)).symm, hw.below⟩)
  · skip
    replace h1 := bnot_f h1
    refine VL.r (.inr ⟨_, _, _, rfl, rfl, rfl⟩) rfl (by decide) (yr_move rfl rfl) ?_
    refine VL.q (.inr ⟨_, _, _, rfl, rfl, rfl⟩) rfl (by decide) (yq_callf rfl known150_Vec (.cons rfl .nil) (fun w hw => c_IsFinite _)) ?_
    refine VL.r (.inr ⟨_, _, _, rfl, rfl, rfl⟩) rfl (by decide) (yr_not rfl rfl) ?_
    refine VL.r (.inl rfl) rfl (by decide) (yr_pick_f rfl rfl rfl) ?_
    refine VL.nil ?_
    refine VE.then_wp ?_
    refine V.cond rfl (fun h3 => ?_) (fun h3 => ?_)
    · skip
      replace h3 := bnot_t h3
      refine V.seq ?_
      refine V.region ?_
      refine VL.r (.inl rfl) rfl (by decide) (yr_build rfl lay32_Vec rfl .nil (by first | (simp; done) | (simp [vv]; done) | (simp [cn, cn1, cn0]; done)) rfl) ?_
      refine VL.s (.inl rfl) rfl (yc_store rfl sz32_Vec rfl rfl (by repeat (first | exact UpdF.here | apply UpdF.there | apply UpdF.thereS)) (.inr ⟨rfl, rfl⟩) rfl (by first | exact Nat.le_of_ble_eq_true rfl | simp) (by decide) rfl) ?_
      rintro ⟨⟩
      refine VL.nil ?_
      refine VE.then_wp ?_
      refine V.ret ?_
      refine VE.then_ret ?_
      refine retC rfl (rv_cellS rfl Try.underlying32 sz32_Vec (by first | exact Sees.root (by assumption) | exact Sees.own (by repeat (first | exact List.mem_cons_self | exact List.mem_append_left _ (by assumption) | apply List.mem_cons_of_mem | apply List.mem_append_right)) | exact Sees.root (hR _ (by omega)) | exact Sees.own (RowsIn.mem (by repeat (first | exact RowsIn.here | exact RowsIn.last | apply RowsIn.there | apply RowsIn.thereS)) _ (by omega)) | exact Sees.own (WRowsIn.mem (by repeat (first | exact WRowsIn.here | exact WRowsIn.last | apply WRowsIn.there | apply WRowsIn.thereS)) _ (by omega))) rfl rfl rfl) (by nofun) (fun w1 hw => ?_)
      first
        | (exact ⟨congrArg vv (segF_no1 (a := (x1, x2, x3)) (b := (y1, y2, y3)) (p := (z1, z2, z3)) (by assumption)).symm, hw.below⟩)
        | (exact ⟨congrArg vv (segF_no2 (a := (x1, x2, x3)) (b := (y1, y2, y3)) (p := (z1, z2, z3)) (by assumption) (by assumption)).symm, hw.below⟩)
        | (exact ⟨congrArg vv (segF_yes (a := (x1, x2, x3)) (b := (y1, y2, y3)) (p := (z1, z2, z3)) (by assumption) (by assumption)).symm, hw.below⟩)
    · skip
      replace h3 := bnot_f h3
      refine V.skip ?_
      refine VE.then_wp ?_
      refine V.seq ?_
      refine V.region ?_
      refine VL.q (.inl rfl) rfl (by decide) (yq_loadS rfl Try.underlying32 sz32_Vec rfl (by first | exact Sees.root (by assumption) | exact Sees.own (by repeat (first | exact List.mem_cons_self | exact List.mem_append_left _ (by assumption) | apply List.mem_cons_of_mem | apply List.mem_append_right)) | exact Sees.root (hR _ (by omega)) | exact Sees.own (RowsIn.mem (by repeat (first | exact RowsIn.here | exact RowsIn.last | apply RowsIn.there | apply RowsIn.thereS)) _ (by omega)) | exact Sees.own (WRowsIn.mem (by repeat (first | exact WRowsIn.here | exact WRowsIn.last | apply WRowsIn.there | apply WRowsIn.thereS)) _ (by omega))) rfl rfl rfl) ?_
      refine VL.q (.inl rfl) rfl (by decide) (yq_loadS rfl Try.underlying32 sz32_Vec rfl (by first | exact Sees.root (by assumption) | exact Sees.own (by repeat (first | exact List.mem_cons_self | exact List.mem_append_left _ (by assumption) | apply List.mem_cons_of_mem | apply List.mem_append_right)) | exact Sees.root (hR _ (by omega)) | exact Sees.own (RowsIn.mem (by repeat (first | exact RowsIn.here | exact RowsIn.last | apply RowsIn.there | apply RowsIn.thereS)) _ (by omega)) | exact Sees.own (WRowsIn.mem (by repeat (first | exact WRowsIn.here | exact WRowsIn.last | apply WRowsIn.there | apply WRowsIn.thereS)) _ (by omega))) rfl rfl rfl) ?_
      refine VL.q (.inl rfl) rfl (by decide) (yq_callf rfl known227_Vec (.cons rfl (.cons rfl .nil)) (fun w hw => c_cross3)) ?_
      refine VL.r (.inl rfl) rfl (by decide) (yr_move rfl rfl) ?_
      refine VL.q (.inl rfl) rfl (by decide) (yq_callf rfl known217_Vec (.cons rfl (.cons rfl .nil)) (fun w hw => c_scale3)) ?_
      refine VL.s (.inl rfl) rfl (yc_store rfl sz32_Vec rfl rfl (by repeat (first | exact UpdF.here | apply UpdF.there | apply UpdF.thereS)) (.inr ⟨rfl, rfl⟩) rfl (by first | exact Nat.le_of_ble_eq_true rfl | simp) (by decide) rfl) ?_
      rintro ⟨⟩
      refine VL.nil ?_
      refine VE.then_wp ?_
      refine V.ret ?_
      refine retC rfl (rv_cellS rfl Try.underlying32 sz32_Vec (by first | exact Sees.root (by assumption) | exact Sees.own (by repeat (first | exact List.mem_cons_self | exact List.mem_append_left _ (by assumption) | apply List.mem_cons_of_mem | apply List.mem_append_right)) | exact Sees.root (hR _ (by omega)) | exact Sees.own (RowsIn.mem (by repeat (first | exact RowsIn.here | exact RowsIn.last | apply RowsIn.there | apply RowsIn.thereS)) _ (by omega)) | exact Sees.own (WRowsIn.mem (by repeat (first | exact WRowsIn.here | exact WRowsIn.last | apply WRowsIn.there | apply WRowsIn.thereS)) _ (by omega))) rfl rfl rfl) (by nofun) (fun w1 hw => ?_)
      first
        | (exact ⟨congrArg vv (segF_no1 (a := (x1, x2, x3)) (b := (y1, y2, y3)) (p := (z1, z2, z3)) (by assumption)).symm, hw.below⟩)
        | (exact ⟨congrArg vv (segF_no2 (a := (x1, x2, x3)) (b := (y1, y2, y3)) (p := (z1, z2, z3)) (by assumption) (by assumption)).symm, hw.below⟩)
        | (exact ⟨congrArg vv (segF_yes (a := (x1, x2, x3)) (b := (y1, y2, y3)) (p := (z1, z2, z3)) (by assumption) (by assumption)).symm, hw.below⟩)

theorem c_segFS {w : World} {x1 x2 x3 y1 y2 y3 z1 z2 z3 : Nat} : Pure Try.prog 213 [vv (x1, x2, x3), vv (y1, y2, y3), vv (z1, z2, z3)] w (vv (segF (x1, x2, x3) (y1, y2, y3) (z1, z2, z3))) := by
  refine Pure.enter Try.func213 rfl Try.ntmps213 (Nat.le_of_ble_eq_true rfl) ?_
  refine V.seq ?_
  refine V.region ?_
  refine VL.new1 (.inl rfl) rfl (by decide) (yn_box rfl rfl (.inr ⟨rfl, rfl⟩)) ?_
  intro b3
  refine VL.new1 (.inl rfl) rfl (by decide) (yn_box rfl rfl (.inr ⟨rfl, rfl⟩)) ?_
  intro b4
  refine VL.new1 (.inl rfl) rfl (by decide) (yn_box rfl rfl (.inr ⟨rfl, rfl⟩)) ?_
  intro b5
  refine VL.new1 (.inl rfl) rfl (by decide) (yn_alloc rfl zero32_Vec rfl) ?_
  intro b6
  refine VL.nil ?_
  refine VE.then_wp ?_
  refine V.seq ?_
  refine V.region ?_
  refine VL.q (.inl rfl) rfl (by decide) (yq_loadS rfl Try.underlying32 sz32_Vec rfl (by first | exact Sees.root (by assumption) | exact Sees.own (by repeat (first | exact List.mem_cons_self | exact List.mem_append_left _ (by assumption) | apply List.mem_cons_of_mem | apply List.mem_append_right)) | exact Sees.root (hR _ (by omega)) | exact Sees.own (RowsIn.mem (by repeat (first | exact RowsIn.here | exact RowsIn.last | apply RowsIn.there | apply RowsIn.thereS)) _ (by omega)) | exact Sees.own (WRowsIn.mem (by repeat (first | exact WRowsIn.here | exact WRowsIn.last | apply WRowsIn.there | apply WRowsIn.thereS)) _ (by omega))) rfl rfl rfl) ?_
  refine VL.q (.inl rfl) rfl (by decide) (yq_loadS rfl Try.underlying32 sz32_Vec rfl (by first | exact Sees.root (by assumption) | exact Sees.own (by repeat (first | exact List.mem_cons_self | exact List.mem_append_left _ (by assumption) | apply List.mem_cons_of_mem | apply List.mem_append_right)) | exact Sees.root (hR _ (by omega)) | exact Sees.own (RowsIn.mem (by repeat (first | exact RowsIn.here | exact RowsIn.last | apply RowsIn.there | apply RowsIn.thereS)) _ (by omega)) | exact Sees.own (WRowsIn.mem (by repeat (first | exact WRowsIn.here | exact WRowsIn.last | apply WRowsIn.there | apply WRowsIn.thereS)) _ (by omega))) rfl rfl rfl) ?_
  refine VL.q (.inl rfl) rfl (by decide) (yq_callf rfl known132_Vec (.cons rfl (.cons rfl .nil)) (fun w hw => c_sub3S)) ?_
  refine VL.new1 (.inl rfl) rfl (by decide) (yn_alloc rfl zero32_Vec rfl) ?_
  intro b7
  refine VL.s (.inl rfl) rfl (yc_store rfl sz32_Vec rfl rfl (by repeat (first | exact UpdF.here | apply UpdF.there | apply UpdF.thereS)) (.inr ⟨rfl, rfl⟩) rfl (by first | exact Nat.le_of_ble_eq_true rfl | simp) (by decide) rfl) ?_
  rintro ⟨⟩
  refine VL.nil ?_
  refine VE.then_wp ?_
  refine V.seq ?_
  refine V.region ?_
  refine VL.q (.inl rfl) rfl (by decide) (yq_loadS rfl Try.underlying32 sz32_Vec rfl (by first | exact Sees.root (by assumption) | exact Sees.own (by repeat (first | exact List.mem_cons_self | exact List.mem_append_left _ (by assumption) | apply List.mem_cons_of_mem | apply List.mem_append_right)) | exact Sees.root (hR _ (by omega)) | exact Sees.own (RowsIn.mem (by repeat (first | exact RowsIn.here | exact RowsIn.last | apply RowsIn.there | apply RowsIn.thereS)) _ (by omega)) | exact Sees.own (WRowsIn.mem (by repeat (first | exact WRowsIn.here | exact WRowsIn.last | apply WRowsIn.there | apply WRowsIn.thereS)) _ (by omega))) rfl rfl rfl) ?_
  refine VL.q (.inl rfl) rfl (by decide) (yq_loadS rfl Try.underlying32 sz32_Vec rfl (by first | exact Sees.root (by assumption) | exact Sees.own (by repeat (first | exact List.mem_cons_self | exact List.mem_append_left _ (by assumption) | apply List.mem_cons_of_mem | apply List.mem_append_right)) | exact Sees.root (hR _ (by omega)) | exact Sees.own (RowsIn.mem (by repeat (first | exact RowsIn.here | exact RowsIn.last | apply RowsIn.there | apply RowsIn.thereS)) _ (by omega)) | exact Sees.own (WRowsIn.mem (by repeat (first | exact WRowsIn.here | exact WRowsIn.last | apply WRowsIn.there | apply WRowsIn.thereS)) _ (by omega))) rfl rfl rfl) ?_
  refine VL.q (.inl rfl) rfl (by decide) (yq_callf rfl known132_Vec (.cons rfl (.cons rfl .nil)) (fun w hw => c_sub3S)) ?_
  refine VL.new1 (.inl rfl) rfl (by decide) (yn_alloc rfl zero32_Vec rfl) ?_
  intro b8
  refine VL.s (.inl rfl) rfl (yc_store rfl sz32_Vec rfl rfl (by repeat (first | exact UpdF.here | apply UpdF.there | apply UpdF.thereS)) (.inr ⟨rfl, rfl⟩) rfl (by first | exact Nat.le_of_ble_eq_true rfl | simp) (by decide) rfl) ?_
  rintro ⟨⟩
  refine VL.nil ?_
  refine VE.then_wp ?_
  refine V.seq ?_
  refine V.region ?_
  refine VL.q (.inl rfl) rfl (by decide) (yq_loadS rfl Try.underlying32 sz32_Vec rfl (by first | exact Sees.root (by assumption) | exact Sees.own (by repeat (first | exact List.mem_cons_self | exact List.mem_append_left _ (by assumption) | apply List.mem_cons_of_mem | apply List.mem_append_right)) | exact Sees.root (hR _ (by omega)) | exact Sees.own (RowsIn.mem (by repeat (first | exact RowsIn.here | exact RowsIn.last | apply RowsIn.there | apply RowsIn.thereS)) _ (by omega)) | exact Sees.own (WRowsIn.mem (by repeat (first | exact WRowsIn.here | exact WRowsIn.last | apply WRowsIn.there | apply WRowsIn.thereS)) _ (by omega))) rfl rfl rfl) ?_
  refine VL.q (.inl rfl) rfl (by decide) (yq_callf rfl known131_Vec (.cons rfl .nil) (fun w hw => c_long3S)) ?_
  refine VL.r (.inl rfl) rfl (by decide) (yr_assign rfl rfl) ?_
  refine VL.nil ?_
  refine VE.then_wp ?_
  refine V.seq ?_
  refine V.region ?_
  refine VL.q (.inl rfl) rfl (by decide) (yq_loadS rfl Try.underlying32 sz32_Vec rfl (by first | exact Sees.root (by assumption) | exact Sees.own (by repeat (first | exact List.mem_cons_self | exact List.mem_append_left _ (by assumption) | apply List.mem_cons_of_mem | apply List.mem_append_right)) | exact Sees.root (hR _ (by omega)) | exact Sees.own (RowsIn.mem (by repeat (first | exact RowsIn.here | exact RowsIn.last | apply RowsIn.there | apply RowsIn.thereS)) _ (by omega)) | exact Sees.own (WRowsIn.mem (by repeat (first | exact WRowsIn.here | exact WRowsIn.last | apply WRowsIn.there | apply WRowsIn.thereS)) _ (by omega))) rfl rfl rfl) ?_
  refine VL.q (.inl rfl) rfl (by decide) (yq_callf rfl known131_Vec (.cons rfl .nil) (fun w hw => c_long3S)) ?_
  refine VL.r (.inl rfl) rfl (by decide) (yr_assign rfl rfl) ?_
  refine VL.nil ?_
  refine VE.then_wp ?_
  refine V.seq ?_
  refine V.region ?_
  refine VL.r (.inl rfl) rfl (by decide) (yr_move rfl rfl) ?_
  refine VL.r (.inl rfl) rfl (by decide) (yr_move rfl rfl) ?_
  refine VL.r (.inl rfl) rfl (by decide) (yr_float rfl (.inr (.inr (.inl rfl))) rfl rfl) ?_
  refine VL.r (.inl rfl) rfl (by decide) (yr_assign rfl rfl) ?_
  refine VL.nil ?_
  refine VE.then_wp ?_
  refine V.seq ?_
  refine V.region ?_
  refine VL.r (.inl rfl) rfl (by decide) (yr_move rfl rfl) ?_
  refine VL.r (.inl rfl) rfl (by decide) (yr_move rfl rfl) ?_
  refine VL.q (.inl rfl) rfl (by decide) (yq_loadS rfl Try.underlying32 sz32_Vec rfl (by first | exact Sees.root (by assumption) | exact Sees.own (by repeat (first | exact List.mem_cons_self | exact List.mem_append_left _ (by assumption) | apply List.mem_cons_of_mem | apply List.mem_append_right)) | exact Sees.root (hR _ (by omega)) | exact Sees.own (RowsIn.mem (by repeat (first | exact RowsIn.here | exact RowsIn.last | apply RowsIn.there | apply RowsIn.thereS)) _ (by omega)) | exact Sees.own (WRowsIn.mem (by repeat (first | exact WRowsIn.here | exact WRowsIn.last | apply WRowsIn.there | apply WRowsIn.thereS)) _ (by omega))) rfl rfl rfl) ?_
  refine VL.q (.inl rfl) rfl (by decide) (yq_loadS rfl Try.underlying32 sz32_Vec rfl (by first | exact Sees.root (by assumption) | exact Sees.own (by repeat (first | exact List.mem_cons_self | exact List.mem_append_left _ (by assumption) | apply List.mem_cons_of_mem | apply List.mem_append_right)) | exact Sees.root (hR _ (by omega)) | exact Sees.own (RowsIn.mem (by repeat (first | exact RowsIn.here | exact RowsIn.last | apply RowsIn.there | apply RowsIn.thereS)) _ (by omega)) | exact Sees.own (WRowsIn.mem (by repeat (first | exact WRowsIn.here | exact WRowsIn.last | apply WRowsIn.there | apply WRowsIn.thereS)) _ (by omega))) rfl rfl rfl) ?_
  refine VL.q (.inl rfl) rfl (by decide) (yq_callf rfl known183_Vec (.cons rfl (.cons rfl .nil)) (fun w hw => c_inner3S)) ?_
  refine VL.r (.inl rfl) rfl (by decide) (yr_float rfl (.inl rfl) rfl rfl) ?_
  refine VL.r (.inl rfl) rfl (by decide) (yr_float rfl (.inr (.inr (.inl rfl))) rfl rfl) ?_
  refine VL.r (.inl rfl) rfl (by decide) (yr_assign rfl rfl) ?_
  refine VL.nil ?_
  refine VE.then_wp ?_
  refine V.seq ?_
  refine V.region ?_
  refine VL.r (.inl rfl) rfl (by decide) (yr_move rfl rfl) ?_
  refine VL.r (.inl rfl) rfl (by decide) (yr_move rfl rfl) ?_
  refine VL.r (.inl rfl) rfl (by decide) (yr_float rfl (.inl rfl) rfl rfl) ?_
  refine VL.r (.inl rfl) rfl (by decide) (yr_move rfl rfl) ?_
  refine VL.r (.inl rfl) rfl (by decide) (yr_float rfl (.inr (.inr (.inr rfl))) rfl rfl) ?_
  refine VL.r (.inl rfl) rfl (by decide) (yr_assign rfl rfl) ?_
  refine VL.nil ?_
  refine VE.then_wp ?_
  refine V.seq ?_
  refine V.seq ?_
  refine V.region ?_
  refine VL.r (.inl rfl) rfl (by decide) (yr_move rfl rfl) ?_
  refine VL.r (.inl rfl) rfl (by decide) (yr_fcmp (b := 0) rfl (.inr (.inr (.inr (.inr (.inl rfl))))) rfl rfl) ?_
  refine VL.r (.inl rfl) rfl (by decide) (yr_not rfl rfl) ?_
  refine VL.r (.inl rfl) rfl (by decide) (yr_move rfl rfl) ?_
  refine VX.split 42 _ rfl (fun h1 => ?_) (fun h1 => ?_)
  · skip
    replace h1 := bnot_t h1
    refine VL.no rfl rfl rfl rfl rfl (by decide) ?_
    refine VL.no rfl rfl rfl rfl rfl (by decide) ?_
    refine VL.no rfl rfl rfl rfl rfl (by decide) ?_
    refine VL.r (.inl rfl) rfl (by decide) (yr_pick_t (u := .bool true) rfl rfl rfl) ?_
    refine VL.nil ?_
    refine VE.then_wp ?_
    refine V.condT rfl ?_
    refine V.seq ?_
    refine V.region ?_
    refine VL.r (.inl rfl) rfl (by decide) (yr_build rfl lay32_Vec rfl .nil (by first | (simp; done) | (simp [vv]; done) | (simp [cn, cn1, cn0]; done)) rfl) ?_
    refine VL.s (.inl rfl) rfl (yc_store rfl sz32_Vec rfl rfl (by repeat (first | exact UpdF.here | apply UpdF.there | apply UpdF.thereS)) (.inr ⟨rfl, rfl⟩) rfl (by first | exact Nat.le_of_ble_eq_true rfl | simp) (by decide) rfl) ?_
    rintro ⟨⟩
    refine VL.nil ?_
    refine VE.then_wp ?_
    refine V.ret ?_
    refine VE.then_ret ?_
    refine retC rfl (rv_cellS rfl Try.underlying32 sz32_Vec (by first | exact Sees.root (by assumption) | exact Sees.own (by repeat (first | exact List.mem_cons_self | exact List.mem_append_left _ (by assumption) | apply List.mem_cons_of_mem | apply List.mem_append_right)) | exact Sees.root (hR _ (by omega)) | exact Sees.own (RowsIn.mem (by repeat (first | exact RowsIn.here | exact RowsIn.last | apply RowsIn.there | apply RowsIn.thereS)) _ (by omega)) | exact Sees.own (WRowsIn.mem (by repeat (first | exact WRowsIn.here | exact WRowsIn.last | apply WRowsIn.there | apply WRowsIn.thereS)) _ (by omega))) rfl rfl rfl) (by nofun) (fun w1 hw => ?_)
    first
      | (exact ⟨congrArg vv (segF_no1 (a := (x1, x2, x3)) (b := (y1, y2, y3)) (p := (z1, z2, z3)) (by assumption)).symm, hw.below⟩)
      | (exact ⟨congrArg vv (segF_no2 (a := (x1, x2, x3)) (b := (y1, y2, y3)) (p := (z1, z2, z3)) (by assumption) (by assumption)).symm, hw.below⟩)
      | (exact ⟨congrArg vv (segF_yes (a := (x1, x2, x3)) (b := (y1, y2, y3)) (p := (z1, z2, z3)) (by assumption) (by assumption)).symm, hw.below⟩)
  · skip
    replace h1 := bnot_f h1
    refine VL.r (.inr ⟨_, _, _, rfl, rfl, rfl⟩) rfl (by decide) (yr_move rfl rfl) ?_
    refine VL.q (.inr ⟨_, _, _, rfl, rfl, rfl⟩) rfl (by decide) (yq_callf rfl known64_Vec (.cons rfl .nil) (fun w hw => c_l01Finite _)) ?_
    refine VL.r (.inr ⟨_, _, _, rfl, rfl, rfl⟩) rfl (by decide) (yr_not rfl rfl) ?_
    refine VL.r (.inl rfl) rfl (by decide) (yr_pick_f rfl rfl rfl) ?_
    refine VL.nil ?_
    refine VE.then_wp ?_
    refine V.cond rfl (fun h3 => ?_) (fun h3 => ?_)
    · skip
      replace h3 := bnot_t h3
      refine V.seq ?_
      refine V.region ?_
      refine VL.r (.inl rfl) rfl (by decide) (yr_build rfl lay32_Vec rfl .nil (by first | (simp; done) | (simp [vv]; done) | (simp [cn, cn1, cn0]; done)) rfl) ?_
      refine VL.s (.inl rfl) rfl (yc_store rfl sz32_Vec rfl rfl (by repeat (first | exact UpdF.here | apply UpdF.there | apply UpdF.thereS)) (.inr ⟨rfl, rfl⟩) rfl (by first | exact Nat.le_of_ble_eq_true rfl | simp) (by decide) rfl) ?_
      rintro ⟨⟩
      refine VL.nil ?_
      refine VE.then_wp ?_
      refine V.ret ?_
      refine VE.then_ret ?_
      refine retC rfl (rv_cellS rfl Try.underlying32 sz32_Vec (by first | exact Sees.root (by assumption) | exact Sees.own (by repeat (first | exact List.mem_cons_self | exact List.mem_append_left _ (by assumption) | apply List.mem_cons_of_mem | apply List.mem_append_right)) | exact Sees.root (hR _ (by omega)) | exact Sees.own (RowsIn.mem (by repeat (first | exact RowsIn.here | exact RowsIn.last | apply RowsIn.there | apply RowsIn.thereS)) _ (by omega)) | exact Sees.own (WRowsIn.mem (by repeat (first | exact WRowsIn.here | exact WRowsIn.last | apply WRowsIn.there | apply WRowsIn.thereS)) _ (by omega))) rfl rfl rfl) (by nofun) (fun w1 hw => ?_)
      first
        | (exact ⟨congrArg vv (segF_no1 (a := (x1, x2, x3)) (b := (y1, y2, y3)) (p := (z1, z2, z3)) (by assumption)).symm, hw.below⟩)
        | (exact ⟨congrArg vv (segF_no2 (a := (x1, x2, x3)) (b := (y1, y2, y3)) (p := (z1, z2, z3)) (by assumption) (by assumption)).symm, hw.below⟩)
        | (exact ⟨congrArg vv (segF_yes (a := (x1, x2, x3)) (b := (y1, y2, y3)) (p := (z1, z2, z3)) (by assumption) (by assumption)).symm, hw.below⟩)
    · skip
      replace h3 := bnot_f h3
      refine V.skip ?_
      refine VE.then_wp ?_
      refine V.seq ?_
      refine V.region ?_
      refine VL.q (.inl rfl) rfl (by decide) (yq_loadS rfl Try.underlying32 sz32_Vec rfl (by first | exact Sees.root (by assumption) | exact Sees.own (by repeat (first | exact List.mem_cons_self | exact List.mem_append_left _ (by assumption) | apply List.mem_cons_of_mem | apply List.mem_append_right)) | exact Sees.root (hR _ (by omega)) | exact Sees.own (RowsIn.mem (by repeat (first | exact RowsIn.here | exact RowsIn.last | apply RowsIn.there | apply RowsIn.thereS)) _ (by omega)) | exact Sees.own (WRowsIn.mem (by repeat (first | exact WRowsIn.here | exact WRowsIn.last | apply WRowsIn.there | apply WRowsIn.thereS)) _ (by omega))) rfl rfl rfl) ?_
      refine VL.q (.inl rfl) rfl (by decide) (yq_loadS rfl Try.underlying32 sz32_Vec rfl (by first | exact Sees.root (by assumption) | exact Sees.own (by repeat (first | exact List.mem_cons_self | exact List.mem_append_left _ (by assumption) | apply List.mem_cons_of_mem | apply List.mem_append_right)) | exact Sees.root (hR _ (by omega)) | exact Sees.own (RowsIn.mem (by repeat (first | exact RowsIn.here | exact RowsIn.last | apply RowsIn.there | apply RowsIn.thereS)) _ (by omega)) | exact Sees.own (WRowsIn.mem (by repeat (first | exact WRowsIn.here | exact WRowsIn.last | apply WRowsIn.there | apply WRowsIn.thereS)) _ (by omega))) rfl rfl rfl) ?_
      refine VL.q (.inl rfl) rfl (by decide) (yq_callf rfl known226_Vec (.cons rfl (.cons rfl .nil)) (fun w hw => c_cross3S)) ?_
      refine VL.r (.inl rfl) rfl (by decide) (yr_move rfl rfl) ?_
      refine VL.q (.inl rfl) rfl (by decide) (yq_callf rfl known214_Vec (.cons rfl (.cons rfl .nil)) (fun w hw => c_scale3S)) ?_
      refine VL.s (.inl rfl) rfl (yc_store rfl sz32_Vec rfl rfl (by repeat (first | exact UpdF.here | apply UpdF.there | apply UpdF.thereS)) (.inr ⟨rfl, rfl⟩) rfl (by first | exact Nat.le_of_ble_eq_true rfl | simp) (by decide) rfl) ?_
      rintro ⟨⟩
      refine VL.nil ?_
      refine VE.then_wp ?_
      refine V.ret ?_
      refine retC rfl (rv_cellS rfl Try.underlying32 sz32_Vec (by first | exact Sees.root (by assumption) | exact Sees.own (by repeat (first | exact List.mem_cons_self | exact List.mem_append_left _ (by assumption) | apply List.mem_cons_of_mem | apply List.mem_append_right)) | exact Sees.root (hR _ (by omega)) | exact Sees.own (RowsIn.mem (by repeat (first | exact RowsIn.here | exact RowsIn.last | apply RowsIn.there | apply RowsIn.thereS)) _ (by omega)) | exact Sees.own (WRowsIn.mem (by repeat (first | exact WRowsIn.here | exact WRowsIn.last | apply WRowsIn.there | apply WRowsIn.thereS)) _ (by omega))) rfl rfl rfl) (by nofun) (fun w1 hw => ?_)
      first
        | (exact ⟨congrArg vv (segF_no1 (a := (x1, x2, x3)) (b := (y1, y2, y3)) (p := (z1, z2, z3)) (by assumption)).symm, hw.below⟩)
        | (exact ⟨congrArg vv (segF_no2 (a := (x1, x2, x3)) (b := (y1, y2, y3)) (p := (z1, z2, z3)) (by assumption) (by assumption)).symm, hw.below⟩)
        | (exact ⟨congrArg vv (segF_yes (a := (x1, x2, x3)) (b := (y1, y2, y3)) (p := (z1, z2, z3)) (by assumption) (by assumption)).symm, hw.below⟩)

theorem c_between {w : World} {x1 x2 x3 y1 y2 y3 : Nat} {k : Nat} : Pure Try.prog 191 [vv (x1, x2, x3), vv (y1, y2, y3), .float .f32 k] w (vv (between3 (x1, x2, x3) (y1, y2, y3) k)) := by
  refine Pure.enter Try.func191 rfl Try.ntmps191 (Nat.le_of_ble_eq_true rfl) ?_
  refine V.seq ?_
  refine V.region ?_
  refine VL.new1 (.inl rfl) rfl (by decide) (yn_box rfl rfl (.inr ⟨rfl, rfl⟩)) ?_
  intro b3
  refine VL.new1 (.inl rfl) rfl (by decide) (yn_box rfl rfl (.inr ⟨rfl, rfl⟩)) ?_
  intro b4
  refine VL.new1 (.inl rfl) rfl (by decide) (yn_alloc rfl zero32_Vec rfl) ?_
  intro b6
  refine VL.nil ?_
  refine VE.then_wp ?_
  refine V.seq ?_
  refine V.draw [(0, 0), (1, 0), (2, 0), (3, 0), (4, 0), (5, 0), (6, 0), (7, 3)] mixed_Vec (by kernel_rfl) (by intro j o hj; simp at hj) ?_
  refine SW.q rfl (.inl rfl) rfl (by decide) (yq_loadS rfl Try.underlying32 sz32_Vec rfl (by first | exact Sees.root (by assumption) | exact Sees.own (by repeat (first | exact List.mem_cons_self | exact List.mem_append_left _ (by assumption) | apply List.mem_cons_of_mem | apply List.mem_append_right)) | exact Sees.root (hR _ (by omega)) | exact Sees.own (RowsIn.mem (by repeat (first | exact RowsIn.here | exact RowsIn.last | apply RowsIn.there | apply RowsIn.thereS)) _ (by omega)) | exact Sees.own (WRowsIn.mem (by repeat (first | exact WRowsIn.here | exact WRowsIn.last | apply WRowsIn.there | apply WRowsIn.thereS)) _ (by omega))) rfl rfl rfl) ?_
  refine SW.q rfl (.inl rfl) rfl (by decide) (yq_loadS rfl Try.underlying32 sz32_Vec rfl (by first | exact Sees.root (by assumption) | exact Sees.own (by repeat (first | exact List.mem_cons_self | exact List.mem_append_left _ (by assumption) | apply List.mem_cons_of_mem | apply List.mem_append_right)) | exact Sees.root (hR _ (by omega)) | exact Sees.own (RowsIn.mem (by repeat (first | exact RowsIn.here | exact RowsIn.last | apply RowsIn.there | apply RowsIn.thereS)) _ (by omega)) | exact Sees.own (WRowsIn.mem (by repeat (first | exact WRowsIn.here | exact WRowsIn.last | apply WRowsIn.there | apply WRowsIn.thereS)) _ (by omega))) rfl rfl rfl) ?_
  refine SW.q rfl (.inl rfl) rfl (by decide) (yq_loadS rfl Try.underlying32 sz32_Vec rfl (by first | exact Sees.root (by assumption) | exact Sees.own (by repeat (first | exact List.mem_cons_self | exact List.mem_append_left _ (by assumption) | apply List.mem_cons_of_mem | apply List.mem_append_right)) | exact Sees.root (hR _ (by omega)) | exact Sees.own (RowsIn.mem (by repeat (first | exact RowsIn.here | exact RowsIn.last | apply RowsIn.there | apply RowsIn.thereS)) _ (by omega)) | exact Sees.own (WRowsIn.mem (by repeat (first | exact WRowsIn.here | exact WRowsIn.last | apply WRowsIn.there | apply WRowsIn.thereS)) _ (by omega))) rfl rfl rfl) ?_
  refine SW.q rfl (.inl rfl) rfl (by decide) (yq_callf rfl known138_Vec (.cons rfl (.cons rfl .nil)) (fun w hw => c_sub3)) ?_
  refine SW.r rfl (.inl rfl) rfl (by decide) (yr_move rfl rfl) ?_
  refine SW.q rfl (.inl rfl) rfl (by decide) (yq_callf rfl known217_Vec (.cons rfl (.cons rfl .nil)) (fun w hw => c_scale3)) ?_
  refine SW.q rfl (.inl rfl) rfl (by decide) (yq_callf rfl known143_Vec (.cons rfl (.cons rfl .nil)) (fun w hw => c_add3)) ?_
  refine SW.s rfl (.inl rfl) rfl (yc_store rfl sz32_Vec rfl rfl (by repeat (first | exact UpdF.here | apply UpdF.there | apply UpdF.thereS)) (.inr ⟨rfl, rfl⟩) rfl (by first | exact Nat.le_of_ble_eq_true rfl | simp) (by decide) rfl) ?_
  rintro ⟨⟩
  refine SW.done ?_
  refine VE.then_wp ?_
  refine V.ret ?_
  refine retC rfl (rv_cellS rfl Try.underlying32 sz32_Vec (by first | exact Sees.root (by assumption) | exact Sees.own (by repeat (first | exact List.mem_cons_self | exact List.mem_append_left _ (by assumption) | apply List.mem_cons_of_mem | apply List.mem_append_right)) | exact Sees.root (hR _ (by omega)) | exact Sees.own (RowsIn.mem (by repeat (first | exact RowsIn.here | exact RowsIn.last | apply RowsIn.there | apply RowsIn.thereS)) _ (by omega)) | exact Sees.own (WRowsIn.mem (by repeat (first | exact WRowsIn.here | exact WRowsIn.last | apply WRowsIn.there | apply WRowsIn.thereS)) _ (by omega))) rfl rfl rfl) (by nofun) (fun w1 hw => ?_)
  exact ⟨rfl, hw.below⟩

theorem c_betweenS {w : World} {x1 x2 x3 y1 y2 y3 : Nat} {k : Nat} : Pure Try.prog 186 [vv (x1, x2, x3), vv (y1, y2, y3), .float .f32 k] w (vv (between3 (x1, x2, x3) (y1, y2, y3) k)) := by
  refine Pure.enter Try.func186 rfl Try.ntmps186 (Nat.le_of_ble_eq_true rfl) ?_
  refine V.seq ?_
  refine V.region ?_
  refine VL.new1 (.inl rfl) rfl (by decide) (yn_box rfl rfl (.inr ⟨rfl, rfl⟩)) ?_
  intro b3
  refine VL.new1 (.inl rfl) rfl (by decide) (yn_box rfl rfl (.inr ⟨rfl, rfl⟩)) ?_
  intro b4
  refine VL.new1 (.inl rfl) rfl (by decide) (yn_alloc rfl zero32_Vec rfl) ?_
  intro b6
  refine VL.nil ?_
  refine VE.then_wp ?_
  refine V.seq ?_
  refine V.draw [(0, 0), (1, 0), (2, 0), (3, 0), (4, 0), (5, 0), (6, 0), (7, 3)] mixed_Vec (by kernel_rfl) (by intro j o hj; simp at hj) ?_
  refine SW.q rfl (.inl rfl) rfl (by decide) (yq_loadS rfl Try.underlying32 sz32_Vec rfl (by first | exact Sees.root (by assumption) | exact Sees.own (by repeat (first | exact List.mem_cons_self | exact List.mem_append_left _ (by assumption) | apply List.mem_cons_of_mem | apply List.mem_append_right)) | exact Sees.root (hR _ (by omega)) | exact Sees.own (RowsIn.mem (by repeat (first | exact RowsIn.here | exact RowsIn.last | apply RowsIn.there | apply RowsIn.thereS)) _ (by omega)) | exact Sees.own (WRowsIn.mem (by repeat (first | exact WRowsIn.here | exact WRowsIn.last | apply WRowsIn.there | apply WRowsIn.thereS)) _ (by omega))) rfl rfl rfl) ?_
  refine SW.q rfl (.inl rfl) rfl (by decide) (yq_loadS rfl Try.underlying32 sz32_Vec rfl (by first | exact Sees.root (by assumption) | exact Sees.own (by repeat (first | exact List.mem_cons_self | exact List.mem_append_left _ (by assumption) | apply List.mem_cons_of_mem | apply List.mem_append_right)) | exact Sees.root (hR _ (by omega)) | exact Sees.own (RowsIn.mem (by repeat (first | exact RowsIn.here | exact RowsIn.last | apply RowsIn.there | apply RowsIn.thereS)) _ (by omega)) | exact Sees.own (WRowsIn.mem (by repeat (first | exact WRowsIn.here | exact WRowsIn.last | apply WRowsIn.there | apply WRowsIn.thereS)) _ (by omega))) rfl rfl rfl) ?_
  refine SW.q rfl (.inl rfl) rfl (by decide) (yq_loadS rfl Try.underlying32 sz32_Vec rfl (by first | exact Sees.root (by assumption) | exact Sees.own (by repeat (first | exact List.mem_cons_self | exact List.mem_append_left _ (by assumption) | apply List.mem_cons_of_mem | apply List.mem_append_right)) | exact Sees.root (hR _ (by omega)) | exact Sees.own (RowsIn.mem (by repeat (first | exact RowsIn.here | exact RowsIn.last | apply RowsIn.there | apply RowsIn.thereS)) _ (by omega)) | exact Sees.own (WRowsIn.mem (by repeat (first | exact WRowsIn.here | exact WRowsIn.last | apply WRowsIn.there | apply WRowsIn.thereS)) _ (by omega))) rfl rfl rfl) ?_
  refine SW.q rfl (.inl rfl) rfl (by decide) (yq_callf rfl known132_Vec (.cons rfl (.cons rfl .nil)) (fun w hw => c_sub3S)) ?_
  refine SW.r rfl (.inl rfl) rfl (by decide) (yr_move rfl rfl) ?_
  refine SW.q rfl (.inl rfl) rfl (by decide) (yq_callf rfl known214_Vec (.cons rfl (.cons rfl .nil)) (fun w hw => c_scale3S)) ?_
  refine SW.q rfl (.inl rfl) rfl (by decide) (yq_callf rfl known179_Vec (.cons rfl (.cons rfl .nil)) (fun w hw => c_add3S)) ?_
  refine SW.s rfl (.inl rfl) rfl (yc_store rfl sz32_Vec rfl rfl (by repeat (first | exact UpdF.here | apply UpdF.there | apply UpdF.thereS)) (.inr ⟨rfl, rfl⟩) rfl (by first | exact Nat.le_of_ble_eq_true rfl | simp) (by decide) rfl) ?_
  rintro ⟨⟩
  refine SW.done ?_
  refine VE.then_wp ?_
  refine V.ret ?_
  refine retC rfl (rv_cellS rfl Try.underlying32 sz32_Vec (by first | exact Sees.root (by assumption) | exact Sees.own (by repeat (first | exact List.mem_cons_self | exact List.mem_append_left _ (by assumption) | apply List.mem_cons_of_mem | apply List.mem_append_right)) | exact Sees.root (hR _ (by omega)) | exact Sees.own (RowsIn.mem (by repeat (first | exact RowsIn.here | exact RowsIn.last | apply RowsIn.there | apply RowsIn.thereS)) _ (by omega)) | exact Sees.own (WRowsIn.mem (by repeat (first | exact WRowsIn.here | exact WRowsIn.last | apply WRowsIn.there | apply WRowsIn.thereS)) _ (by omega))) rfl rfl rfl) (by nofun) (fun w1 hw => ?_)
  exact ⟨rfl, hw.below⟩

end Go.Proofs.Ytacjcomjnabmhaa
