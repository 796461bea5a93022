/- Own texts of this claim, merged: WVal, RndB, Pm, Nm, Square, Ridge, Block, Lim, Own. -/
import Derived.KernelRfl
import Derived.Deep.Slices
import Derived.Test.YtfignpiphihgfaaKFnMeshes3
namespace Go.Proofs.Ytfignpiphihgfaa
open Go.RowKit
set_option linter.unusedVariables false
set_option linter.unusedSimpArgs false
set_option maxRecDepth 20000

theorem ext176_Val : ExtF Try.prog 176 (Extern.MathFloor.toIntegral "math.archFloor" .down) := ⟨_, Try.func176, by kernel_rfl, by kernel_rfl, by kernel_rfl, by kernel_rfl⟩
theorem known164_Val : Known Try.prog 164 := Known.mk' Try.func164 (by kernel_rfl)
theorem zero27_Val : (Try.prog.info? 27).bind (·.zero) = some (Value.agg #[Value.float .f32 0, Value.float .f32 0, Value.float .f32 0]) := by kernel_rfl
theorem sz2_Val : (Try.prog.info? 2).map (·.size) = some 1 := by kernel_rfl
theorem fb2_Val : flatB Try.prog 2 = true := by kernel_rfl
theorem sz30_Val : (Try.prog.info? 30).map (·.size) = some 8 := by kernel_rfl
theorem known103_Val : Known Try.prog 103 := Known.mk' Try.func103 (by kernel_rfl)
theorem sz27_Val : (Try.prog.info? 27).map (·.size) = some 3 := by kernel_rfl
theorem mixed_Val : Try.prog.follows .mixedOrders = true := by kernel_rfl
theorem fb23_Val : flatB Try.prog 23 = true := by kernel_rfl
theorem known147_Val : Known Try.prog 147 := Known.mk' Try.func147 (by kernel_rfl)
theorem fb158_Val : flatB Try.prog 158 = true := by kernel_rfl
theorem known146_Val : Known Try.prog 146 := Known.mk' Try.func146 (by kernel_rfl)
theorem known144_Val : Known Try.prog 144 := Known.mk' Try.func144 (by kernel_rfl)
theorem sz23_Val : (Try.prog.info? 23).map (·.size) = some 1 := by kernel_rfl
theorem known145_Val : Known Try.prog 145 := Known.mk' Try.func145 (by kernel_rfl)
theorem zero2_Val : (Try.prog.info? 2).bind (·.zero) = some (Value.int .i64 0) := by kernel_rfl
theorem zero23_Val : (Try.prog.info? 23).bind (·.zero) = some (Value.float .f32 0) := by kernel_rfl
theorem zero158_Val : (Try.prog.info? 158).bind (·.zero) = some (Value.nilFunc) := by kernel_rfl
theorem sz158_Val : (Try.prog.info? 158).map (·.size) = some 1 := by kernel_rfl
theorem known148_Val : Known Try.prog 148 := Known.mk' Try.func148 (by kernel_rfl)
attribute [local irreducible] fop fcmp fconv sqrt32 fneg List.getD ffl mval between3 rowV colV valV celI celS

theorem c_floor {w : World} {x : Nat} : Pure Try.prog 164 [.float .f64 x] w (.float .f64 (ffl x)) := by
  refine Pure.enter Try.func164 rfl Try.ntmps164 (Nat.le_of_ble_eq_true rfl) ?_
  refine V.seq ?_
  refine V.region ?_
  refine VL.r (.inl rfl) rfl (by decide) (yr_assign (u := .float .f64 0) rfl rfl) ?_
  refine VL.nil ?_
  refine VE.then_wp ?_
  refine V.seq ?_
  refine V.condT rfl ?_
  refine V.seq ?_
  refine V.region ?_
  refine VL.r (.inl rfl) rfl (by decide) (yr_move rfl rfl) ?_
  refine VL.q (.inl rfl) rfl (by decide) (yq_ext rfl ext176_Val (.cons rfl .nil) (fun vs w h => ext_floor vs w h)) ?_
  refine VL.r (.inl rfl) rfl (by decide) (yr_assign rfl rfl) ?_
  refine VL.nil ?_
  refine VE.then_wp ?_
  refine V.ret ?_
  refine VE.then_ret ?_
  refine ret1 rfl rfl (fun w1 hw => ?_)
  exact ⟨rfl, hw.below⟩

theorem c_cellI {w : World} {u : Nat} {n : Int} (hn : 1 ≤ n ∧ n ≤ 216) : Pure Try.prog 145 [.float .f32 u, .int .i64 n] w (.tuple #[.int .i64 ((celI u n).1 : Int), .float .f32 (celI u n).2]) := by
  refine Pure.enter Try.func145 rfl Try.ntmps145 (Nat.le_of_ble_eq_true rfl) ?_
  refine V.seq ?_
  refine V.region ?_
  refine VL.r (.inl rfl) rfl (by decide) (yr_assign (u := .int .i64 0) rfl rfl) ?_
  refine VL.r (.inl rfl) rfl (by decide) (yr_assign (u := .float .f32 0) rfl rfl) ?_
  refine VL.nil ?_
  refine VE.then_wp ?_
  refine V.seq ?_
  refine V.seq ?_
  refine V.region ?_
  refine VL.r (.inl rfl) rfl (by decide) (yr_move rfl rfl) ?_
  refine VL.r (.inl rfl) rfl (by decide) (yr_icmp rfl (.inl rfl) rfl rfl) ?_
  refine VL.nil ?_
  refine VE.then_wp ?_
  refine V.cond rfl (fun h1 => ?_) (fun h1 => ?_)
  · skip
    replace h1 := ic_eql h1
    refine V.seq ?_
    refine V.region ?_
    refine VL.r (.inl rfl) rfl (by decide) (yr_assign (u := .int .i64 0) rfl rfl) ?_
    refine VL.r (.inl rfl) rfl (by decide) (yr_assign (u := .float .f32 0) rfl rfl) ?_
    refine VL.nil ?_
    refine VE.then_wp ?_
    refine V.ret ?_
    refine VE.then_ret ?_
    refine ret2 rfl rfl rfl (by nofun) (by nofun) (fun w1 hw => ?_)
    first
      | exact ⟨celI_1 (by omega), hw.below⟩
      | exact ⟨celI_of (by omega) (clI_a (by assumption) (by assumption)), hw.below⟩
      | exact ⟨celI_of (by omega) (clI_b (by assumption) (by assumption)), hw.below⟩
      | exact ⟨celI_of (by omega) (clI_c (by assumption) (by assumption)), hw.below⟩
      | exact ⟨celI_of (by omega) (clI_d (by assumption) (by assumption)), hw.below⟩
  · skip
    replace h1 := ic_eql' h1
    refine V.skip ?_
    refine VE.then_wp ?_
    refine V.seq ?_
    refine V.region ?_
    refine VL.r (.inl rfl) rfl (by decide) (yr_move rfl rfl) ?_
    refine VL.r (.inl rfl) rfl (by decide) (yr_fconv rfl Try.underlying23 Try.underlying59 (by decide) rfl (fover_up _)) ?_
    refine VL.q (.inl rfl) rfl (by decide) (yq_callf rfl known164_Val (.cons rfl .nil) (fun w hw => c_floor)) ?_
    refine VL.r (.inl rfl) rfl (by decide) (yr_assign rfl rfl) ?_
    refine VL.nil ?_
    refine VE.then_wp ?_
    refine V.seq ?_
    refine V.seq ?_
    refine V.region ?_
    refine VL.r (.inl rfl) rfl (by decide) (yr_move rfl rfl) ?_
    refine VL.r (.inl rfl) rfl (by decide) (yr_fcmp (b := 0) rfl (.inr (.inr (.inr (.inr (.inr rfl))))) rfl rfl) ?_
    refine VL.r (.inl rfl) rfl (by decide) (yr_not rfl rfl) ?_
    refine VL.nil ?_
    refine VE.then_wp ?_
    refine V.cond rfl (fun h2 => ?_) (fun h2 => ?_)
    · skip
      replace h2 := bnot_t h2
      refine V.region ?_
      refine VL.r (.inl rfl) rfl (by decide) (yr_assign (u := .float .f64 0) rfl rfl) ?_
      refine VL.nil ?_
      refine VE.then_wp ?_
      refine V.seq ?_
      refine V.seq ?_
      refine V.region ?_
      refine VL.r (.inl rfl) rfl (by decide) (yr_move rfl rfl) ?_
      refine VL.r (.inl rfl) rfl (by decide) (yr_move rfl rfl) ?_
      refine VL.r (.inl rfl) rfl (by decide) (yr_int rfl rfl rfl (.inr (.inl ⟨rfl, wrap_in (by omega)⟩))) ?_
      refine VL.r (.inl rfl) rfl (by decide) (yr_ofInt rfl Try.underlying2 Try.underlying59 rfl) ?_
      refine VL.r (.inl rfl) rfl (by decide) (yr_fcmp rfl (.inr (.inr (.inr (.inr (.inl rfl))))) rfl rfl) ?_
      refine VL.nil ?_
      refine VE.then_wp ?_
      refine V.cond rfl (fun h3 => ?_) (fun h3 => ?_)
      · skip
        refine V.region ?_
        refine VL.r (.inl rfl) rfl (by decide) (yr_move rfl rfl) ?_
        refine VL.r (.inl rfl) rfl (by decide) (yr_int rfl rfl rfl (.inr (.inl ⟨rfl, wrap_in (by omega)⟩))) ?_
        refine VL.r (.inl rfl) rfl (by decide) (yr_ofInt rfl Try.underlying2 Try.underlying59 rfl) ?_
        refine VL.r (.inl rfl) rfl (by decide) (yr_assign rfl rfl) ?_
        refine VL.nil ?_
        refine VE.then_wp ?_
        refine V.seq ?_
        refine V.region ?_
        refine VL.r (.inl rfl) rfl (by decide) (yr_move rfl rfl) ?_
        refine VL.r (.inl rfl) rfl (by decide) (yr_toInt rfl Try.underlying59 Try.underlying2 rfl (by first | exact ci_of (clI_a (by assumption) (by assumption)) (clI_ci hn (by omega)) | exact ci_of (clI_b (by assumption) (by assumption)) (clI_ci hn (by omega)) | exact ci_of (clI_c (by assumption) (by assumption)) (clI_ci hn (by omega)) | exact ci_of (clI_d (by assumption) (by assumption)) (clI_ci hn (by omega)))) ?_
        refine VL.r (.inl rfl) rfl (by decide) (yr_move rfl rfl) ?_
        refine VL.r (.inl rfl) rfl (by decide) (yr_move rfl rfl) ?_
        refine VL.r (.inl rfl) rfl (by decide) (yr_fconv rfl Try.underlying59 Try.underlying23 (by decide) rfl (by first | exact co_of (clI_a (by assumption) (by assumption)) (clI_co hn (by omega)) | exact co_of (clI_b (by assumption) (by assumption)) (clI_co hn (by omega)) | exact co_of (clI_c (by assumption) (by assumption)) (clI_co hn (by omega)) | exact co_of (clI_d (by assumption) (by assumption)) (clI_co hn (by omega)))) ?_
        refine VL.r (.inl rfl) rfl (by decide) (yr_float rfl (.inr (.inl rfl)) rfl rfl) ?_
        refine VL.r (.inl rfl) rfl (by decide) (yr_assign rfl rfl) ?_
        refine VL.r (.inl rfl) rfl (by decide) (yr_assign rfl rfl) ?_
        refine VL.nil ?_
        refine VE.then_wp ?_
        refine V.ret ?_
        refine ret2 rfl rfl rfl (by nofun) (by nofun) (fun w1 hw => ?_)
        first
          | exact ⟨celI_1 (by omega), hw.below⟩
          | exact ⟨celI_of (by omega) (clI_a (by assumption) (by assumption)), hw.below⟩
          | exact ⟨celI_of (by omega) (clI_b (by assumption) (by assumption)), hw.below⟩
          | exact ⟨celI_of (by omega) (clI_c (by assumption) (by assumption)), hw.below⟩
          | exact ⟨celI_of (by omega) (clI_d (by assumption) (by assumption)), hw.below⟩
      · skip
        refine V.skip ?_
        refine VE.then_wp ?_
        refine V.seq ?_
        refine V.region ?_
        refine VL.r (.inl rfl) rfl (by decide) (yr_move rfl rfl) ?_
        refine VL.r (.inl rfl) rfl (by decide) (yr_toInt rfl Try.underlying59 Try.underlying2 rfl (by first | exact ci_of (clI_a (by assumption) (by assumption)) (clI_ci hn (by omega)) | exact ci_of (clI_b (by assumption) (by assumption)) (clI_ci hn (by omega)) | exact ci_of (clI_c (by assumption) (by assumption)) (clI_ci hn (by omega)) | exact ci_of (clI_d (by assumption) (by assumption)) (clI_ci hn (by omega)))) ?_
        refine VL.r (.inl rfl) rfl (by decide) (yr_move rfl rfl) ?_
        refine VL.r (.inl rfl) rfl (by decide) (yr_move rfl rfl) ?_
        refine VL.r (.inl rfl) rfl (by decide) (yr_fconv rfl Try.underlying59 Try.underlying23 (by decide) rfl (by first | exact co_of (clI_a (by assumption) (by assumption)) (clI_co hn (by omega)) | exact co_of (clI_b (by assumption) (by assumption)) (clI_co hn (by omega)) | exact co_of (clI_c (by assumption) (by assumption)) (clI_co hn (by omega)) | exact co_of (clI_d (by assumption) (by assumption)) (clI_co hn (by omega)))) ?_
        refine VL.r (.inl rfl) rfl (by decide) (yr_float rfl (.inr (.inl rfl)) rfl rfl) ?_
        refine VL.r (.inl rfl) rfl (by decide) (yr_assign rfl rfl) ?_
        refine VL.r (.inl rfl) rfl (by decide) (yr_assign rfl rfl) ?_
        refine VL.nil ?_
        refine VE.then_wp ?_
        refine V.ret ?_
        refine ret2 rfl rfl rfl (by nofun) (by nofun) (fun w1 hw => ?_)
        first
          | exact ⟨celI_1 (by omega), hw.below⟩
          | exact ⟨celI_of (by omega) (clI_a (by assumption) (by assumption)), hw.below⟩
          | exact ⟨celI_of (by omega) (clI_b (by assumption) (by assumption)), hw.below⟩
          | exact ⟨celI_of (by omega) (clI_c (by assumption) (by assumption)), hw.below⟩
          | exact ⟨celI_of (by omega) (clI_d (by assumption) (by assumption)), hw.below⟩
    · skip
      replace h2 := bnot_f h2
      refine V.skip ?_
      refine VE.then_wp ?_
      refine V.seq ?_
      refine V.seq ?_
      refine V.region ?_
      refine VL.r (.inl rfl) rfl (by decide) (yr_move rfl rfl) ?_
      refine VL.r (.inl rfl) rfl (by decide) (yr_move rfl rfl) ?_
      refine VL.r (.inl rfl) rfl (by decide) (yr_int rfl rfl rfl (.inr (.inl ⟨rfl, wrap_in (by omega)⟩))) ?_
      refine VL.r (.inl rfl) rfl (by decide) (yr_ofInt rfl Try.underlying2 Try.underlying59 rfl) ?_
      refine VL.r (.inl rfl) rfl (by decide) (yr_fcmp rfl (.inr (.inr (.inr (.inr (.inl rfl))))) rfl rfl) ?_
      refine VL.nil ?_
      refine VE.then_wp ?_
      refine V.cond rfl (fun h4 => ?_) (fun h4 => ?_)
      · skip
        refine V.region ?_
        refine VL.r (.inl rfl) rfl (by decide) (yr_move rfl rfl) ?_
        refine VL.r (.inl rfl) rfl (by decide) (yr_int rfl rfl rfl (.inr (.inl ⟨rfl, wrap_in (by omega)⟩))) ?_
        refine VL.r (.inl rfl) rfl (by decide) (yr_ofInt rfl Try.underlying2 Try.underlying59 rfl) ?_
        refine VL.r (.inl rfl) rfl (by decide) (yr_assign rfl rfl) ?_
        refine VL.nil ?_
        refine VE.then_wp ?_
        refine V.seq ?_
        refine V.region ?_
        refine VL.r (.inl rfl) rfl (by decide) (yr_move rfl rfl) ?_
        refine VL.r (.inl rfl) rfl (by decide) (yr_toInt rfl Try.underlying59 Try.underlying2 rfl (by first | exact ci_of (clI_a (by assumption) (by assumption)) (clI_ci hn (by omega)) | exact ci_of (clI_b (by assumption) (by assumption)) (clI_ci hn (by omega)) | exact ci_of (clI_c (by assumption) (by assumption)) (clI_ci hn (by omega)) | exact ci_of (clI_d (by assumption) (by assumption)) (clI_ci hn (by omega)))) ?_
        refine VL.r (.inl rfl) rfl (by decide) (yr_move rfl rfl) ?_
        refine VL.r (.inl rfl) rfl (by decide) (yr_move rfl rfl) ?_
        refine VL.r (.inl rfl) rfl (by decide) (yr_fconv rfl Try.underlying59 Try.underlying23 (by decide) rfl (by first | exact co_of (clI_a (by assumption) (by assumption)) (clI_co hn (by omega)) | exact co_of (clI_b (by assumption) (by assumption)) (clI_co hn (by omega)) | exact co_of (clI_c (by assumption) (by assumption)) (clI_co hn (by omega)) | exact co_of (clI_d (by assumption) (by assumption)) (clI_co hn (by omega)))) ?_
        refine VL.r (.inl rfl) rfl (by decide) (yr_float rfl (.inr (.inl rfl)) rfl rfl) ?_
        refine VL.r (.inl rfl) rfl (by decide) (yr_assign rfl rfl) ?_
        refine VL.r (.inl rfl) rfl (by decide) (yr_assign rfl rfl) ?_
        refine VL.nil ?_
        refine VE.then_wp ?_
        refine V.ret ?_
        refine ret2 rfl rfl rfl (by nofun) (by nofun) (fun w1 hw => ?_)
        first
          | exact ⟨celI_1 (by omega), hw.below⟩
          | exact ⟨celI_of (by omega) (clI_a (by assumption) (by assumption)), hw.below⟩
          | exact ⟨celI_of (by omega) (clI_b (by assumption) (by assumption)), hw.below⟩
          | exact ⟨celI_of (by omega) (clI_c (by assumption) (by assumption)), hw.below⟩
          | exact ⟨celI_of (by omega) (clI_d (by assumption) (by assumption)), hw.below⟩
      · skip
        refine V.skip ?_
        refine VE.then_wp ?_
        refine V.seq ?_
        refine V.region ?_
        refine VL.r (.inl rfl) rfl (by decide) (yr_move rfl rfl) ?_
        refine VL.r (.inl rfl) rfl (by decide) (yr_toInt rfl Try.underlying59 Try.underlying2 rfl (by first | exact ci_of (clI_a (by assumption) (by assumption)) (clI_ci hn (by omega)) | exact ci_of (clI_b (by assumption) (by assumption)) (clI_ci hn (by omega)) | exact ci_of (clI_c (by assumption) (by assumption)) (clI_ci hn (by omega)) | exact ci_of (clI_d (by assumption) (by assumption)) (clI_ci hn (by omega)))) ?_
        refine VL.r (.inl rfl) rfl (by decide) (yr_move rfl rfl) ?_
        refine VL.r (.inl rfl) rfl (by decide) (yr_move rfl rfl) ?_
        refine VL.r (.inl rfl) rfl (by decide) (yr_fconv rfl Try.underlying59 Try.underlying23 (by decide) rfl (by first | exact co_of (clI_a (by assumption) (by assumption)) (clI_co hn (by omega)) | exact co_of (clI_b (by assumption) (by assumption)) (clI_co hn (by omega)) | exact co_of (clI_c (by assumption) (by assumption)) (clI_co hn (by omega)) | exact co_of (clI_d (by assumption) (by assumption)) (clI_co hn (by omega)))) ?_
        refine VL.r (.inl rfl) rfl (by decide) (yr_float rfl (.inr (.inl rfl)) rfl rfl) ?_
        refine VL.r (.inl rfl) rfl (by decide) (yr_assign rfl rfl) ?_
        refine VL.r (.inl rfl) rfl (by decide) (yr_assign rfl rfl) ?_
        refine VL.nil ?_
        refine VE.then_wp ?_
        refine V.ret ?_
        refine ret2 rfl rfl rfl (by nofun) (by nofun) (fun w1 hw => ?_)
        first
          | exact ⟨celI_1 (by omega), hw.below⟩
          | exact ⟨celI_of (by omega) (clI_a (by assumption) (by assumption)), hw.below⟩
          | exact ⟨celI_of (by omega) (clI_b (by assumption) (by assumption)), hw.below⟩
          | exact ⟨celI_of (by omega) (clI_c (by assumption) (by assumption)), hw.below⟩
          | exact ⟨celI_of (by omega) (clI_d (by assumption) (by assumption)), hw.below⟩

theorem c_alongX {w : World} {f1 f2 f3 st W H D : Nat} {a : Option Addr} {c : Nat} {vs : List V3} {q2 q6 q7 i s y z : Nat} (hM : Cl w (some ⟨q2, 0, none⟩) [.float .f32 f1, .float .f32 f2, .float .f32 f3, .float .f32 st, .int .i64 (W : Int), .int .i64 (H : Int), .int .i64 (D : Int), .slice a vs.length c]) (hB6 : Cl w (some ⟨q6, 0, none⟩) [.int .i64 (i : Int)]) (hB7 : Cl w (some ⟨q7, 0, none⟩) [.float .f32 s]) (hA : Cl w a (vl vs)) (hN : vs.length = W * H * D) (hbd : W * H * D ≤ 216) (hW : 1 ≤ W ∧ W ≤ 216) (hH : 1 ≤ H ∧ H ≤ 216) (hD : 1 ≤ D ∧ D ≤ 216) (hi : (W = 1 → i = 0) ∧ (W ≠ 1 → i + 1 < W)) (hy : y < H) (hz : z < D) : Pure Try.prog 146 [.int .i64 (y : Int), .int .i64 (z : Int), .pointer (some (adr (some ⟨q2, 0, none⟩) 0)), .pointer (some (adr (some ⟨q6, 0, none⟩) 0)), .pointer (some (adr (some ⟨q7, 0, none⟩) 0))] w (vv (rowV vs W H (i, s) y z)) := by
  refine Pure.enter Try.func146 rfl Try.ntmps146 (Nat.le_of_ble_eq_true rfl) ?_
  refine V.seq ?_
  refine V.region ?_
  refine VL.new1 (.inl rfl) rfl (by decide) (yn_alloc rfl zero27_Val rfl) ?_
  intro b7
  refine VL.nil ?_
  refine VE.then_wp ?_
  refine V.seq ?_
  refine V.seq ?_
  refine V.region ?_
  refine VL.r (.inl rfl) rfl (by decide) (yr_fieldAddr rfl Try.underlying30 rfl rfl sz2_Val (by decide) rfl) ?_
  refine VL.q (.inl rfl) rfl (by decide) (yq_load rfl fb2_Val rfl (by first | exact Sees.root (by assumption) | exact Sees.own (by repeat (first | exact List.mem_cons_self | exact List.mem_append_left _ (by assumption) | apply List.mem_cons_of_mem | apply List.mem_append_right)) | exact Sees.root (hR _ (by omega)) | exact Sees.own (RowsIn.mem (by repeat (first | exact RowsIn.here | exact RowsIn.last | apply RowsIn.there | apply RowsIn.thereS)) _ (by omega)) | exact Sees.own (WRowsIn.mem (by repeat (first | exact WRowsIn.here | exact WRowsIn.last | apply WRowsIn.there | apply WRowsIn.thereS)) _ (by omega))) rfl) ?_
  refine VL.r (.inl rfl) rfl (by decide) (yr_icmp rfl (.inl rfl) rfl rfl) ?_
  refine VL.nil ?_
  refine VE.then_wp ?_
  refine V.cond rfl (fun h1 => ?_) (fun h1 => ?_)
  · skip
    replace h1 := ic_eql h1
    refine V.seq ?_
    refine V.region ?_
    refine VL.q (.inl rfl) rfl (by decide) (yq_loadS rfl Try.underlying30 sz30_Val rfl (by first | exact Sees.root (by assumption) | exact Sees.own (by repeat (first | exact List.mem_cons_self | exact List.mem_append_left _ (by assumption) | apply List.mem_cons_of_mem | apply List.mem_append_right)) | exact Sees.root (hR _ (by omega)) | exact Sees.own (RowsIn.mem (by repeat (first | exact RowsIn.here | exact RowsIn.last | apply RowsIn.there | apply RowsIn.thereS)) _ (by omega)) | exact Sees.own (WRowsIn.mem (by repeat (first | exact WRowsIn.here | exact WRowsIn.last | apply WRowsIn.there | apply WRowsIn.thereS)) _ (by omega))) rfl rfl rfl) ?_
    refine VL.q (.inl rfl) rfl (by decide) (yq_load rfl fb2_Val rfl (by first | exact Sees.root (by assumption) | exact Sees.own (by repeat (first | exact List.mem_cons_self | exact List.mem_append_left _ (by assumption) | apply List.mem_cons_of_mem | apply List.mem_append_right)) | exact Sees.root (hR _ (by omega)) | exact Sees.own (RowsIn.mem (by repeat (first | exact RowsIn.here | exact RowsIn.last | apply RowsIn.there | apply RowsIn.thereS)) _ (by omega)) | exact Sees.own (WRowsIn.mem (by repeat (first | exact WRowsIn.here | exact WRowsIn.last | apply WRowsIn.there | apply WRowsIn.thereS)) _ (by omega))) rfl) ?_
    refine VL.r (.inl rfl) rfl (by decide) (yr_move rfl rfl) ?_
    refine VL.r (.inl rfl) rfl (by decide) (yr_move rfl rfl) ?_
    refine VL.q (.inl rfl) rfl (by decide) (yq_callf rfl known103_Val (.cons rfl (.cons rfl (.cons rfl (.cons rfl .nil)))) (fun w hw => (c_at (x := i) (y := y) (z := z) (by first | exact Sees.root (by assumption) w hw | exact Sees.own (by repeat (first | exact List.mem_cons_self | exact List.mem_append_left _ (by assumption) | apply List.mem_cons_of_mem | apply List.mem_append_right)) w hw) hN hbd (by omega) (by omega) (by omega)))) ?_
    refine VL.s (.inl rfl) rfl (yc_store rfl sz27_Val rfl rfl (by repeat (first | exact UpdF.here | apply UpdF.there | apply UpdF.thereS)) (.inr ⟨rfl, rfl⟩) rfl (by first | exact Nat.le_of_ble_eq_true rfl | simp) (by decide) rfl) ?_
    rintro ⟨⟩
    refine VL.nil ?_
    refine VE.then_wp ?_
    refine V.ret ?_
    refine VE.then_ret ?_
    refine retC rfl (rv_cellS rfl Try.underlying27 sz27_Val (by first | exact Sees.root (by assumption) | exact Sees.own (by repeat (first | exact List.mem_cons_self | exact List.mem_append_left _ (by assumption) | apply List.mem_cons_of_mem | apply List.mem_append_right)) | exact Sees.root (hR _ (by omega)) | exact Sees.own (RowsIn.mem (by repeat (first | exact RowsIn.here | exact RowsIn.last | apply RowsIn.there | apply RowsIn.thereS)) _ (by omega)) | exact Sees.own (WRowsIn.mem (by repeat (first | exact WRowsIn.here | exact WRowsIn.last | apply WRowsIn.there | apply WRowsIn.thereS)) _ (by omega))) rfl rfl rfl) (by nofun) (fun w1 hw => ?_)
    first
      | exact ⟨congrArg vv (row_1 (vs := vs) (W := W) (H := H) (c := (i, s)) (y := y) (z := z) (by omega)).symm, hw.below⟩
      | exact ⟨congrArg vv (row_n (vs := vs) (W := W) (H := H) (c := (i, s)) (y := y) (z := z) (by omega)).symm, hw.below⟩
  · skip
    replace h1 := ic_eql' h1
    refine V.skip ?_
    refine VE.then_wp ?_
    refine V.seq ?_
    refine Dr.V.drawR [(0, 5), (1, 5), (2, 5), (3, 5), (4, 5), (5, 5), (6, 5), (7, 5), (8, 5), (9, 5), (10, 5), (11, 5), (12, 5), (13, 3)] [] [⟨some ⟨b7, 0, none⟩, [.float .f32 (z3).1, .float .f32 (z3).2.1, .float .f32 (z3).2.2], 3, 27⟩] [] mixed_Val (by kernel_rfl) (fun w hw => hw) ?_
    refine Dr.SW.p rfl (.inl rfl) rfl (by decide) (yq_loadS rfl Try.underlying30 sz30_Val rfl (by first | exact Sees.root (by assumption) | exact Sees.own (by (try simp only [List.append_assoc, List.cons_append, List.nil_append]); repeat (first | exact List.mem_cons_self | exact List.mem_append_left _ (by assumption) | apply List.mem_cons_of_mem | apply List.mem_append_right)) | exact Sees.root (hR _ (by omega)) | exact Sees.own (RowsIn.mem (by (try simp only [List.append_assoc, List.cons_append, List.nil_append]); repeat (first | exact RowsIn.here | exact RowsIn.last | apply RowsIn.there | apply RowsIn.thereS)) _ (by omega)) | exact Sees.own (WRowsIn.mem (by (try simp only [List.append_assoc, List.cons_append, List.nil_append]); repeat (first | exact WRowsIn.here | exact WRowsIn.last | apply WRowsIn.there | apply WRowsIn.thereS)) _ (by omega))) rfl rfl rfl) ?_
    refine Dr.SW.p rfl (.inl rfl) rfl (by decide) (yq_load rfl fb2_Val rfl (by first | exact Sees.root (by assumption) | exact Sees.own (by (try simp only [List.append_assoc, List.cons_append, List.nil_append]); repeat (first | exact List.mem_cons_self | exact List.mem_append_left _ (by assumption) | apply List.mem_cons_of_mem | apply List.mem_append_right)) | exact Sees.root (hR _ (by omega)) | exact Sees.own (RowsIn.mem (by (try simp only [List.append_assoc, List.cons_append, List.nil_append]); repeat (first | exact RowsIn.here | exact RowsIn.last | apply RowsIn.there | apply RowsIn.thereS)) _ (by omega)) | exact Sees.own (WRowsIn.mem (by (try simp only [List.append_assoc, List.cons_append, List.nil_append]); repeat (first | exact WRowsIn.here | exact WRowsIn.last | apply WRowsIn.there | apply WRowsIn.thereS)) _ (by omega))) rfl) ?_
    refine Dr.SW.r rfl (.inl rfl) rfl (by decide) (yr_move rfl rfl) ?_
    refine Dr.SW.r rfl (.inl rfl) rfl (by decide) (yr_move rfl rfl) ?_
    refine Dr.SW.p rfl (.inl rfl) rfl (by decide) (yq_callf rfl known103_Val (.cons rfl (.cons rfl (.cons rfl (.cons rfl .nil)))) (fun w hw => (c_at (x := i) (y := y) (z := z) (by first | exact Sees.root (by assumption) w hw | exact Sees.own (by (try simp only [List.append_assoc, List.cons_append, List.nil_append]); repeat (first | exact List.mem_cons_self | exact List.mem_append_left _ (by assumption) | apply List.mem_cons_of_mem | apply List.mem_append_right)) w hw) hN hbd (by omega) (by omega) (by omega)))) ?_
    refine Dr.SW.p rfl (.inl rfl) rfl (by decide) (yq_loadS rfl Try.underlying30 sz30_Val rfl (by first | exact Sees.root (by assumption) | exact Sees.own (by (try simp only [List.append_assoc, List.cons_append, List.nil_append]); repeat (first | exact List.mem_cons_self | exact List.mem_append_left _ (by assumption) | apply List.mem_cons_of_mem | apply List.mem_append_right)) | exact Sees.root (hR _ (by omega)) | exact Sees.own (RowsIn.mem (by (try simp only [List.append_assoc, List.cons_append, List.nil_append]); repeat (first | exact RowsIn.here | exact RowsIn.last | apply RowsIn.there | apply RowsIn.thereS)) _ (by omega)) | exact Sees.own (WRowsIn.mem (by (try simp only [List.append_assoc, List.cons_append, List.nil_append]); repeat (first | exact WRowsIn.here | exact WRowsIn.last | apply WRowsIn.there | apply WRowsIn.thereS)) _ (by omega))) rfl rfl rfl) ?_
    refine Dr.SW.p rfl (.inl rfl) rfl (by decide) (yq_load rfl fb2_Val rfl (by first | exact Sees.root (by assumption) | exact Sees.own (by (try simp only [List.append_assoc, List.cons_append, List.nil_append]); repeat (first | exact List.mem_cons_self | exact List.mem_append_left _ (by assumption) | apply List.mem_cons_of_mem | apply List.mem_append_right)) | exact Sees.root (hR _ (by omega)) | exact Sees.own (RowsIn.mem (by (try simp only [List.append_assoc, List.cons_append, List.nil_append]); repeat (first | exact RowsIn.here | exact RowsIn.last | apply RowsIn.there | apply RowsIn.thereS)) _ (by omega)) | exact Sees.own (WRowsIn.mem (by (try simp only [List.append_assoc, List.cons_append, List.nil_append]); repeat (first | exact WRowsIn.here | exact WRowsIn.last | apply WRowsIn.there | apply WRowsIn.thereS)) _ (by omega))) rfl) ?_
    refine Dr.SW.r rfl (.inl rfl) rfl (by decide) (yr_addN (i + 1) rfl rfl rfl (by push_cast; rfl) (by omega)) ?_
    refine Dr.SW.r rfl (.inl rfl) rfl (by decide) (yr_move rfl rfl) ?_
    refine Dr.SW.r rfl (.inl rfl) rfl (by decide) (yr_move rfl rfl) ?_
    refine Dr.SW.p rfl (.inl rfl) rfl (by decide) (yq_callf rfl known103_Val (.cons rfl (.cons rfl (.cons rfl (.cons rfl .nil)))) (fun w hw => (c_at (x := i + 1) (y := y) (z := z) (by first | exact Sees.root (by assumption) w hw | exact Sees.own (by (try simp only [List.append_assoc, List.cons_append, List.nil_append]); repeat (first | exact List.mem_cons_self | exact List.mem_append_left _ (by assumption) | apply List.mem_cons_of_mem | apply List.mem_append_right)) w hw) hN hbd (by omega) (by omega) (by omega)))) ?_
    refine Dr.SW.p rfl (.inl rfl) rfl (by decide) (yq_load rfl fb23_Val rfl (by first | exact Sees.root (by assumption) | exact Sees.own (by (try simp only [List.append_assoc, List.cons_append, List.nil_append]); repeat (first | exact List.mem_cons_self | exact List.mem_append_left _ (by assumption) | apply List.mem_cons_of_mem | apply List.mem_append_right)) | exact Sees.root (hR _ (by omega)) | exact Sees.own (RowsIn.mem (by (try simp only [List.append_assoc, List.cons_append, List.nil_append]); repeat (first | exact RowsIn.here | exact RowsIn.last | apply RowsIn.there | apply RowsIn.thereS)) _ (by omega)) | exact Sees.own (WRowsIn.mem (by (try simp only [List.append_assoc, List.cons_append, List.nil_append]); repeat (first | exact WRowsIn.here | exact WRowsIn.last | apply WRowsIn.there | apply WRowsIn.thereS)) _ (by omega))) rfl) ?_
    refine Dr.SW.p rfl (.inl rfl) rfl (by decide) (yq_callf rfl known147_Val (.cons rfl (.cons rfl (.cons rfl .nil))) (fun w hw => c_between)) ?_
    refine Dr.SW.s rfl (.inl rfl) rfl (yc_store rfl sz27_Val rfl rfl (Dr.UpdF.app (by repeat (first | exact UpdF.here | apply UpdF.there | apply UpdF.thereS))) (.inr ⟨rfl, rfl⟩) rfl (by first | exact Nat.le_of_ble_eq_true rfl | simp) (by decide) rfl) ?_
    rintro ⟨⟩
    refine Dr.SW.done ?_
    refine Dr.eqO (by simp only [List.append_nil, List.append_assoc, List.cons_append, List.nil_append] <;> rfl) ?_
    refine VE.then_wp ?_
    refine V.ret ?_
    refine retC rfl (rv_cellS rfl Try.underlying27 sz27_Val (by first | exact Sees.root (by assumption) | exact Sees.own (by repeat (first | exact List.mem_cons_self | exact List.mem_append_left _ (by assumption) | apply List.mem_cons_of_mem | apply List.mem_append_right)) | exact Sees.root (hR _ (by omega)) | exact Sees.own (RowsIn.mem (by repeat (first | exact RowsIn.here | exact RowsIn.last | apply RowsIn.there | apply RowsIn.thereS)) _ (by omega)) | exact Sees.own (WRowsIn.mem (by repeat (first | exact WRowsIn.here | exact WRowsIn.last | apply WRowsIn.there | apply WRowsIn.thereS)) _ (by omega))) rfl rfl rfl) (by nofun) (fun w1 hw => ?_)
    first
      | exact ⟨congrArg vv (row_1 (vs := vs) (W := W) (H := H) (c := (i, s)) (y := y) (z := z) (by omega)).symm, hw.below⟩
      | exact ⟨congrArg vv (row_n (vs := vs) (W := W) (H := H) (c := (i, s)) (y := y) (z := z) (by omega)).symm, hw.below⟩

theorem c_alongY {w : World} {f1 f2 f3 st W H D : Nat} {a : Option Addr} {c : Nat} {vs : List V3} {q2 q6 q7 q8 q9 q12 i s j t z : Nat} (hM : Cl w (some ⟨q2, 0, none⟩) [.float .f32 f1, .float .f32 f2, .float .f32 f3, .float .f32 st, .int .i64 (W : Int), .int .i64 (H : Int), .int .i64 (D : Int), .slice a vs.length c]) (hB6 : Cl w (some ⟨q6, 0, none⟩) [.int .i64 (i : Int)]) (hB7 : Cl w (some ⟨q7, 0, none⟩) [.float .f32 s]) (hF : Cl w (some ⟨q12, 0, none⟩) [.func (.func 146) #[] #[.pointer (some (adr (some ⟨q2, 0, none⟩) 0)), .pointer (some (adr (some ⟨q6, 0, none⟩) 0)), .pointer (some (adr (some ⟨q7, 0, none⟩) 0))]]) (hB8 : Cl w (some ⟨q8, 0, none⟩) [.int .i64 (j : Int)]) (hB9 : Cl w (some ⟨q9, 0, none⟩) [.float .f32 t]) (hA : Cl w a (vl vs)) (hN : vs.length = W * H * D) (hbd : W * H * D ≤ 216) (hW : 1 ≤ W ∧ W ≤ 216) (hH : 1 ≤ H ∧ H ≤ 216) (hD : 1 ≤ D ∧ D ≤ 216) (hi : (W = 1 → i = 0) ∧ (W ≠ 1 → i + 1 < W)) (hj : (H = 1 → j = 0) ∧ (H ≠ 1 → j + 1 < H)) (hz : z < D) : Pure Try.prog 148 [.int .i64 (z : Int), .pointer (some (adr (some ⟨q2, 0, none⟩) 0)), .pointer (some (adr (some ⟨q12, 0, none⟩) 0)), .pointer (some (adr (some ⟨q8, 0, none⟩) 0)), .pointer (some (adr (some ⟨q9, 0, none⟩) 0))] w (vv (colV vs W H (i, s) (j, t) z)) := by
  refine Pure.enter Try.func148 rfl Try.ntmps148 (Nat.le_of_ble_eq_true rfl) ?_
  refine V.seq ?_
  refine V.region ?_
  refine VL.new1 (.inl rfl) rfl (by decide) (yn_alloc rfl zero27_Val rfl) ?_
  intro b6
  refine VL.nil ?_
  refine VE.then_wp ?_
  refine V.seq ?_
  refine V.seq ?_
  refine V.region ?_
  refine VL.r (.inl rfl) rfl (by decide) (yr_fieldAddr rfl Try.underlying30 rfl rfl sz2_Val (by decide) rfl) ?_
  refine VL.q (.inl rfl) rfl (by decide) (yq_load rfl fb2_Val rfl (by first | exact Sees.root (by assumption) | exact Sees.own (by repeat (first | exact List.mem_cons_self | exact List.mem_append_left _ (by assumption) | apply List.mem_cons_of_mem | apply List.mem_append_right)) | exact Sees.root (hR _ (by omega)) | exact Sees.own (RowsIn.mem (by repeat (first | exact RowsIn.here | exact RowsIn.last | apply RowsIn.there | apply RowsIn.thereS)) _ (by omega)) | exact Sees.own (WRowsIn.mem (by repeat (first | exact WRowsIn.here | exact WRowsIn.last | apply WRowsIn.there | apply WRowsIn.thereS)) _ (by omega))) rfl) ?_
  refine VL.r (.inl rfl) rfl (by decide) (yr_icmp rfl (.inl rfl) rfl rfl) ?_
  refine VL.nil ?_
  refine VE.then_wp ?_
  refine V.cond rfl (fun h1 => ?_) (fun h1 => ?_)
  · skip
    replace h1 := ic_eql h1
    refine V.seq ?_
    refine V.region ?_
    refine VL.q (.inl rfl) rfl (by decide) (yq_load rfl fb158_Val rfl (by first | exact Sees.root (by assumption) | exact Sees.own (by repeat (first | exact List.mem_cons_self | exact List.mem_append_left _ (by assumption) | apply List.mem_cons_of_mem | apply List.mem_append_right)) | exact Sees.root (hR _ (by omega)) | exact Sees.own (RowsIn.mem (by repeat (first | exact RowsIn.here | exact RowsIn.last | apply RowsIn.there | apply RowsIn.thereS)) _ (by omega)) | exact Sees.own (WRowsIn.mem (by repeat (first | exact WRowsIn.here | exact WRowsIn.last | apply WRowsIn.there | apply WRowsIn.thereS)) _ (by omega))) rfl) ?_
    refine VL.q (.inl rfl) rfl (by decide) (yq_load rfl fb2_Val rfl (by first | exact Sees.root (by assumption) | exact Sees.own (by repeat (first | exact List.mem_cons_self | exact List.mem_append_left _ (by assumption) | apply List.mem_cons_of_mem | apply List.mem_append_right)) | exact Sees.root (hR _ (by omega)) | exact Sees.own (RowsIn.mem (by repeat (first | exact RowsIn.here | exact RowsIn.last | apply RowsIn.there | apply RowsIn.thereS)) _ (by omega)) | exact Sees.own (WRowsIn.mem (by repeat (first | exact WRowsIn.here | exact WRowsIn.last | apply WRowsIn.there | apply WRowsIn.thereS)) _ (by omega))) rfl) ?_
    refine VL.r (.inl rfl) rfl (by decide) (yr_move rfl rfl) ?_
    refine VL.q (.inl rfl) rfl (by decide) (yq_call rfl known146_Val rfl (.cons rfl (.cons rfl .nil)) (fun w hw => c_alongX (i := i) (s := s) (y := j) (z := z) (vs := vs) (W := W) (H := H) (D := D) (by first | exact Sees.root (by assumption) w hw | exact Sees.own (by repeat (first | exact List.mem_cons_self | exact List.mem_append_left _ (by assumption) | apply List.mem_cons_of_mem | apply List.mem_append_right)) w hw) (by first | exact Sees.root (by assumption) w hw | exact Sees.own (by repeat (first | exact List.mem_cons_self | exact List.mem_append_left _ (by assumption) | apply List.mem_cons_of_mem | apply List.mem_append_right)) w hw) (by first | exact Sees.root (by assumption) w hw | exact Sees.own (by repeat (first | exact List.mem_cons_self | exact List.mem_append_left _ (by assumption) | apply List.mem_cons_of_mem | apply List.mem_append_right)) w hw) (by first | exact Sees.root (by assumption) w hw | exact Sees.own (by repeat (first | exact List.mem_cons_self | exact List.mem_append_left _ (by assumption) | apply List.mem_cons_of_mem | apply List.mem_append_right)) w hw) hN hbd hW hH hD hi (by omega) (by omega))) ?_
    refine VL.s (.inl rfl) rfl (yc_store rfl sz27_Val rfl rfl (by repeat (first | exact UpdF.here | apply UpdF.there | apply UpdF.thereS)) (.inr ⟨rfl, rfl⟩) rfl (by first | exact Nat.le_of_ble_eq_true rfl | simp) (by decide) rfl) ?_
    rintro ⟨⟩
    refine VL.nil ?_
    refine VE.then_wp ?_
    refine V.ret ?_
    refine VE.then_ret ?_
    refine retC rfl (rv_cellS rfl Try.underlying27 sz27_Val (by first | exact Sees.root (by assumption) | exact Sees.own (by repeat (first | exact List.mem_cons_self | exact List.mem_append_left _ (by assumption) | apply List.mem_cons_of_mem | apply List.mem_append_right)) | exact Sees.root (hR _ (by omega)) | exact Sees.own (RowsIn.mem (by repeat (first | exact RowsIn.here | exact RowsIn.last | apply RowsIn.there | apply RowsIn.thereS)) _ (by omega)) | exact Sees.own (WRowsIn.mem (by repeat (first | exact WRowsIn.here | exact WRowsIn.last | apply WRowsIn.there | apply WRowsIn.thereS)) _ (by omega))) rfl rfl rfl) (by nofun) (fun w1 hw => ?_)
    first
      | exact ⟨congrArg vv (col_1 (vs := vs) (W := W) (H := H) (c := (i, s)) (d := (j, t)) (z := z) (by omega)).symm, hw.below⟩
      | exact ⟨congrArg vv (col_n (vs := vs) (W := W) (H := H) (c := (i, s)) (d := (j, t)) (z := z) (by omega)).symm, hw.below⟩
  · skip
    replace h1 := ic_eql' h1
    refine V.skip ?_
    refine VE.then_wp ?_
    refine V.seq ?_
    refine Dr.V.drawR [(0, 5), (1, 5), (2, 5), (3, 5), (4, 5), (5, 5), (6, 5), (7, 5), (8, 5), (9, 5), (10, 5), (11, 3)] [] [⟨some ⟨b6, 0, none⟩, [.float .f32 (z3).1, .float .f32 (z3).2.1, .float .f32 (z3).2.2], 3, 27⟩] [] mixed_Val (by kernel_rfl) (fun w hw => hw) ?_
    refine Dr.SW.p rfl (.inl rfl) rfl (by decide) (yq_load rfl fb158_Val rfl (by first | exact Sees.root (by assumption) | exact Sees.own (by (try simp only [List.append_assoc, List.cons_append, List.nil_append]); repeat (first | exact List.mem_cons_self | exact List.mem_append_left _ (by assumption) | apply List.mem_cons_of_mem | apply List.mem_append_right)) | exact Sees.root (hR _ (by omega)) | exact Sees.own (RowsIn.mem (by (try simp only [List.append_assoc, List.cons_append, List.nil_append]); repeat (first | exact RowsIn.here | exact RowsIn.last | apply RowsIn.there | apply RowsIn.thereS)) _ (by omega)) | exact Sees.own (WRowsIn.mem (by (try simp only [List.append_assoc, List.cons_append, List.nil_append]); repeat (first | exact WRowsIn.here | exact WRowsIn.last | apply WRowsIn.there | apply WRowsIn.thereS)) _ (by omega))) rfl) ?_
    refine Dr.SW.p rfl (.inl rfl) rfl (by decide) (yq_load rfl fb2_Val rfl (by first | exact Sees.root (by assumption) | exact Sees.own (by (try simp only [List.append_assoc, List.cons_append, List.nil_append]); repeat (first | exact List.mem_cons_self | exact List.mem_append_left _ (by assumption) | apply List.mem_cons_of_mem | apply List.mem_append_right)) | exact Sees.root (hR _ (by omega)) | exact Sees.own (RowsIn.mem (by (try simp only [List.append_assoc, List.cons_append, List.nil_append]); repeat (first | exact RowsIn.here | exact RowsIn.last | apply RowsIn.there | apply RowsIn.thereS)) _ (by omega)) | exact Sees.own (WRowsIn.mem (by (try simp only [List.append_assoc, List.cons_append, List.nil_append]); repeat (first | exact WRowsIn.here | exact WRowsIn.last | apply WRowsIn.there | apply WRowsIn.thereS)) _ (by omega))) rfl) ?_
    refine Dr.SW.r rfl (.inl rfl) rfl (by decide) (yr_move rfl rfl) ?_
    refine Dr.SW.p rfl (.inl rfl) rfl (by decide) (yq_call rfl known146_Val rfl (.cons rfl (.cons rfl .nil)) (fun w hw => c_alongX (i := i) (s := s) (y := j) (z := z) (vs := vs) (W := W) (H := H) (D := D) (by first | exact Sees.root (by assumption) w hw | exact Sees.own (by (try simp only [List.append_assoc, List.cons_append, List.nil_append]); repeat (first | exact List.mem_cons_self | exact List.mem_append_left _ (by assumption) | apply List.mem_cons_of_mem | apply List.mem_append_right)) w hw) (by first | exact Sees.root (by assumption) w hw | exact Sees.own (by (try simp only [List.append_assoc, List.cons_append, List.nil_append]); repeat (first | exact List.mem_cons_self | exact List.mem_append_left _ (by assumption) | apply List.mem_cons_of_mem | apply List.mem_append_right)) w hw) (by first | exact Sees.root (by assumption) w hw | exact Sees.own (by (try simp only [List.append_assoc, List.cons_append, List.nil_append]); repeat (first | exact List.mem_cons_self | exact List.mem_append_left _ (by assumption) | apply List.mem_cons_of_mem | apply List.mem_append_right)) w hw) (by first | exact Sees.root (by assumption) w hw | exact Sees.own (by (try simp only [List.append_assoc, List.cons_append, List.nil_append]); repeat (first | exact List.mem_cons_self | exact List.mem_append_left _ (by assumption) | apply List.mem_cons_of_mem | apply List.mem_append_right)) w hw) hN hbd hW hH hD hi (by omega) (by omega))) ?_
    refine Dr.SW.p rfl (.inl rfl) rfl (by decide) (yq_load rfl fb158_Val rfl (by first | exact Sees.root (by assumption) | exact Sees.own (by (try simp only [List.append_assoc, List.cons_append, List.nil_append]); repeat (first | exact List.mem_cons_self | exact List.mem_append_left _ (by assumption) | apply List.mem_cons_of_mem | apply List.mem_append_right)) | exact Sees.root (hR _ (by omega)) | exact Sees.own (RowsIn.mem (by (try simp only [List.append_assoc, List.cons_append, List.nil_append]); repeat (first | exact RowsIn.here | exact RowsIn.last | apply RowsIn.there | apply RowsIn.thereS)) _ (by omega)) | exact Sees.own (WRowsIn.mem (by (try simp only [List.append_assoc, List.cons_append, List.nil_append]); repeat (first | exact WRowsIn.here | exact WRowsIn.last | apply WRowsIn.there | apply WRowsIn.thereS)) _ (by omega))) rfl) ?_
    refine Dr.SW.p rfl (.inl rfl) rfl (by decide) (yq_load rfl fb2_Val rfl (by first | exact Sees.root (by assumption) | exact Sees.own (by (try simp only [List.append_assoc, List.cons_append, List.nil_append]); repeat (first | exact List.mem_cons_self | exact List.mem_append_left _ (by assumption) | apply List.mem_cons_of_mem | apply List.mem_append_right)) | exact Sees.root (hR _ (by omega)) | exact Sees.own (RowsIn.mem (by (try simp only [List.append_assoc, List.cons_append, List.nil_append]); repeat (first | exact RowsIn.here | exact RowsIn.last | apply RowsIn.there | apply RowsIn.thereS)) _ (by omega)) | exact Sees.own (WRowsIn.mem (by (try simp only [List.append_assoc, List.cons_append, List.nil_append]); repeat (first | exact WRowsIn.here | exact WRowsIn.last | apply WRowsIn.there | apply WRowsIn.thereS)) _ (by omega))) rfl) ?_
    refine Dr.SW.r rfl (.inl rfl) rfl (by decide) (yr_addN (j + 1) rfl rfl rfl (by push_cast; rfl) (by omega)) ?_
    refine Dr.SW.r rfl (.inl rfl) rfl (by decide) (yr_move rfl rfl) ?_
    refine Dr.SW.p rfl (.inl rfl) rfl (by decide) (yq_call rfl known146_Val rfl (.cons rfl (.cons rfl .nil)) (fun w hw => c_alongX (i := i) (s := s) (y := j + 1) (z := z) (vs := vs) (W := W) (H := H) (D := D) (by first | exact Sees.root (by assumption) w hw | exact Sees.own (by (try simp only [List.append_assoc, List.cons_append, List.nil_append]); repeat (first | exact List.mem_cons_self | exact List.mem_append_left _ (by assumption) | apply List.mem_cons_of_mem | apply List.mem_append_right)) w hw) (by first | exact Sees.root (by assumption) w hw | exact Sees.own (by (try simp only [List.append_assoc, List.cons_append, List.nil_append]); repeat (first | exact List.mem_cons_self | exact List.mem_append_left _ (by assumption) | apply List.mem_cons_of_mem | apply List.mem_append_right)) w hw) (by first | exact Sees.root (by assumption) w hw | exact Sees.own (by (try simp only [List.append_assoc, List.cons_append, List.nil_append]); repeat (first | exact List.mem_cons_self | exact List.mem_append_left _ (by assumption) | apply List.mem_cons_of_mem | apply List.mem_append_right)) w hw) (by first | exact Sees.root (by assumption) w hw | exact Sees.own (by (try simp only [List.append_assoc, List.cons_append, List.nil_append]); repeat (first | exact List.mem_cons_self | exact List.mem_append_left _ (by assumption) | apply List.mem_cons_of_mem | apply List.mem_append_right)) w hw) hN hbd hW hH hD hi (by omega) (by omega))) ?_
    refine Dr.SW.p rfl (.inl rfl) rfl (by decide) (yq_load rfl fb23_Val rfl (by first | exact Sees.root (by assumption) | exact Sees.own (by (try simp only [List.append_assoc, List.cons_append, List.nil_append]); repeat (first | exact List.mem_cons_self | exact List.mem_append_left _ (by assumption) | apply List.mem_cons_of_mem | apply List.mem_append_right)) | exact Sees.root (hR _ (by omega)) | exact Sees.own (RowsIn.mem (by (try simp only [List.append_assoc, List.cons_append, List.nil_append]); repeat (first | exact RowsIn.here | exact RowsIn.last | apply RowsIn.there | apply RowsIn.thereS)) _ (by omega)) | exact Sees.own (WRowsIn.mem (by (try simp only [List.append_assoc, List.cons_append, List.nil_append]); repeat (first | exact WRowsIn.here | exact WRowsIn.last | apply WRowsIn.there | apply WRowsIn.thereS)) _ (by omega))) rfl) ?_
    refine Dr.SW.p rfl (.inl rfl) rfl (by decide) (yq_callf rfl known147_Val (.cons rfl (.cons rfl (.cons rfl .nil))) (fun w hw => c_between)) ?_
    refine Dr.SW.s rfl (.inl rfl) rfl (yc_store rfl sz27_Val rfl rfl (Dr.UpdF.app (by repeat (first | exact UpdF.here | apply UpdF.there | apply UpdF.thereS))) (.inr ⟨rfl, rfl⟩) rfl (by first | exact Nat.le_of_ble_eq_true rfl | simp) (by decide) rfl) ?_
    rintro ⟨⟩
    refine Dr.SW.done ?_
    refine Dr.eqO (by simp only [List.append_nil, List.append_assoc, List.cons_append, List.nil_append] <;> rfl) ?_
    refine VE.then_wp ?_
    refine V.ret ?_
    refine retC rfl (rv_cellS rfl Try.underlying27 sz27_Val (by first | exact Sees.root (by assumption) | exact Sees.own (by repeat (first | exact List.mem_cons_self | exact List.mem_append_left _ (by assumption) | apply List.mem_cons_of_mem | apply List.mem_append_right)) | exact Sees.root (hR _ (by omega)) | exact Sees.own (RowsIn.mem (by repeat (first | exact RowsIn.here | exact RowsIn.last | apply RowsIn.there | apply RowsIn.thereS)) _ (by omega)) | exact Sees.own (WRowsIn.mem (by repeat (first | exact WRowsIn.here | exact WRowsIn.last | apply WRowsIn.there | apply WRowsIn.thereS)) _ (by omega))) rfl rfl rfl) (by nofun) (fun w1 hw => ?_)
    first
      | exact ⟨congrArg vv (col_1 (vs := vs) (W := W) (H := H) (c := (i, s)) (d := (j, t)) (z := z) (by omega)).symm, hw.below⟩
      | exact ⟨congrArg vv (col_n (vs := vs) (W := W) (H := H) (c := (i, s)) (d := (j, t)) (z := z) (by omega)).symm, hw.below⟩

theorem c_valI {w : World} {f1 f2 f3 st W H D : Nat} {a : Option Addr} {c : Nat} {vs : List V3} {p1 p2 p3 : Nat} (hA : Cl w a (vl vs)) (hN : vs.length = W * H * D) (hbd : W * H * D ≤ 216) (hW : 1 ≤ W ∧ W ≤ 216) (hH : 1 ≤ H ∧ H ≤ 216) (hD : 1 ≤ D ∧ D ≤ 216) : Pure Try.prog 105 [.agg #[.float .f32 f1, .float .f32 f2, .float .f32 f3, .float .f32 st, .int .i64 (W : Int), .int .i64 (H : Int), .int .i64 (D : Int), .slice a vs.length c], vv (p1, p2, p3)] w (vv (valI vs (f1, f2, f3) st W H D (p1, p2, p3))) := by
  refine Pure.enter Try.func105 rfl Try.ntmps105 (Nat.le_of_ble_eq_true rfl) ?_
  have hci : (W = 1 → (celI (crd p1 f1 st) (W : Int)).1 = 0) ∧ (W ≠ 1 → (celI (crd p1 f1 st) (W : Int)).1 + 1 < W) := by
    obtain ⟨u1, u2⟩ := cel_lt (u := crd p1 f1 st) (n := (W : Int)) (by omega)
    exact ⟨fun h => u1 (by omega), fun h => by have := u2 (by omega); omega⟩
  have hcj : (H = 1 → (celI (crd p2 f2 st) (H : Int)).1 = 0) ∧ (H ≠ 1 → (celI (crd p2 f2 st) (H : Int)).1 + 1 < H) := by
    obtain ⟨u1, u2⟩ := cel_lt (u := crd p2 f2 st) (n := (H : Int)) (by omega)
    exact ⟨fun h => u1 (by omega), fun h => by have := u2 (by omega); omega⟩
  have hck : (D = 1 → (celI (crd p3 f3 st) (D : Int)).1 = 0) ∧ (D ≠ 1 → (celI (crd p3 f3 st) (D : Int)).1 + 1 < D) := by
    obtain ⟨u1, u2⟩ := cel_lt (u := crd p3 f3 st) (n := (D : Int)) (by omega)
    exact ⟨fun h => u1 (by omega), fun h => by have := u2 (by omega); omega⟩
  refine V.seq ?_
  refine V.region ?_
  refine VL.new1 (.inl rfl) rfl (by decide) (yn_box rfl rfl (.inr ⟨rfl, rfl⟩)) ?_
  intro b2
  refine VL.new1 (.inl rfl) rfl (by decide) (yn_box rfl rfl (.inr ⟨rfl, rfl⟩)) ?_
  intro b3
  refine VL.new1 (.inl rfl) rfl (by decide) (yn_alloc rfl zero27_Val rfl) ?_
  intro b4
  refine VL.nil ?_
  refine VE.then_wp ?_
  refine V.seq ?_
  refine V.region ?_
  refine VL.q (.inl rfl) rfl (by decide) (yq_loadS rfl Try.underlying27 sz27_Val rfl (by first | exact Sees.root (by assumption) | exact Sees.own (by repeat (first | exact List.mem_cons_self | exact List.mem_append_left _ (by assumption) | apply List.mem_cons_of_mem | apply List.mem_append_right)) | exact Sees.root (hR _ (by omega)) | exact Sees.own (RowsIn.mem (by repeat (first | exact RowsIn.here | exact RowsIn.last | apply RowsIn.there | apply RowsIn.thereS)) _ (by omega)) | exact Sees.own (WRowsIn.mem (by repeat (first | exact WRowsIn.here | exact WRowsIn.last | apply WRowsIn.there | apply WRowsIn.thereS)) _ (by omega))) rfl rfl rfl) ?_
  refine VL.r (.inl rfl) rfl (by decide) (yr_fieldAddr rfl Try.underlying30 rfl rfl sz27_Val (by decide) rfl) ?_
  refine VL.q (.inl rfl) rfl (by decide) (yq_loadS rfl Try.underlying27 sz27_Val rfl (by first | exact Sees.root (by assumption) | exact Sees.own (by repeat (first | exact List.mem_cons_self | exact List.mem_append_left _ (by assumption) | apply List.mem_cons_of_mem | apply List.mem_append_right)) | exact Sees.root (hR _ (by omega)) | exact Sees.own (RowsIn.mem (by repeat (first | exact RowsIn.here | exact RowsIn.last | apply RowsIn.there | apply RowsIn.thereS)) _ (by omega)) | exact Sees.own (WRowsIn.mem (by repeat (first | exact WRowsIn.here | exact WRowsIn.last | apply WRowsIn.there | apply WRowsIn.thereS)) _ (by omega))) rfl rfl rfl) ?_
  refine VL.q (.inl rfl) rfl (by decide) (yq_callf rfl known144_Val (.cons rfl (.cons rfl .nil)) (fun w hw => c_sub3)) ?_
  refine VL.new1 (.inl rfl) rfl (by decide) (yn_alloc rfl zero27_Val rfl) ?_
  intro b5
  refine VL.s (.inl rfl) rfl (yc_store rfl sz27_Val rfl rfl (by repeat (first | exact UpdF.here | apply UpdF.there | apply UpdF.thereS)) (.inr ⟨rfl, rfl⟩) rfl (by first | exact Nat.le_of_ble_eq_true rfl | simp) (by decide) rfl) ?_
  rintro ⟨⟩
  refine VL.nil ?_
  refine VE.then_wp ?_
  refine V.seq ?_
  refine V.region ?_
  refine VL.r (.inl rfl) rfl (by decide) (yr_fieldAddr rfl Try.underlying27 rfl rfl sz23_Val (by decide) rfl) ?_
  refine VL.q (.inl rfl) rfl (by decide) (yq_load rfl fb23_Val rfl (by first | exact Sees.root (by assumption) | exact Sees.own (by repeat (first | exact List.mem_cons_self | exact List.mem_append_left _ (by assumption) | apply List.mem_cons_of_mem | apply List.mem_append_right)) | exact Sees.root (hR _ (by omega)) | exact Sees.own (RowsIn.mem (by repeat (first | exact RowsIn.here | exact RowsIn.last | apply RowsIn.there | apply RowsIn.thereS)) _ (by omega)) | exact Sees.own (WRowsIn.mem (by repeat (first | exact WRowsIn.here | exact WRowsIn.last | apply WRowsIn.there | apply WRowsIn.thereS)) _ (by omega))) rfl) ?_
  refine VL.r (.inl rfl) rfl (by decide) (yr_fieldAddr rfl Try.underlying30 rfl rfl sz23_Val (by decide) rfl) ?_
  refine VL.q (.inl rfl) rfl (by decide) (yq_load rfl fb23_Val rfl (by first | exact Sees.root (by assumption) | exact Sees.own (by repeat (first | exact List.mem_cons_self | exact List.mem_append_left _ (by assumption) | apply List.mem_cons_of_mem | apply List.mem_append_right)) | exact Sees.root (hR _ (by omega)) | exact Sees.own (RowsIn.mem (by repeat (first | exact RowsIn.here | exact RowsIn.last | apply RowsIn.there | apply RowsIn.thereS)) _ (by omega)) | exact Sees.own (WRowsIn.mem (by repeat (first | exact WRowsIn.here | exact WRowsIn.last | apply WRowsIn.there | apply WRowsIn.thereS)) _ (by omega))) rfl) ?_
  refine VL.r (.inl rfl) rfl (by decide) (yr_float rfl (.inr (.inr (.inr rfl))) rfl rfl) ?_
  refine VL.r (.inl rfl) rfl (by decide) (yr_fieldAddr rfl Try.underlying30 rfl rfl sz2_Val (by decide) rfl) ?_
  refine VL.q (.inl rfl) rfl (by decide) (yq_load rfl fb2_Val rfl (by first | exact Sees.root (by assumption) | exact Sees.own (by repeat (first | exact List.mem_cons_self | exact List.mem_append_left _ (by assumption) | apply List.mem_cons_of_mem | apply List.mem_append_right)) | exact Sees.root (hR _ (by omega)) | exact Sees.own (RowsIn.mem (by repeat (first | exact RowsIn.here | exact RowsIn.last | apply RowsIn.there | apply RowsIn.thereS)) _ (by omega)) | exact Sees.own (WRowsIn.mem (by repeat (first | exact WRowsIn.here | exact WRowsIn.last | apply WRowsIn.there | apply WRowsIn.thereS)) _ (by omega))) rfl) ?_
  refine VL.q (.inl rfl) rfl (by decide) (yq_callf rfl known145_Val (.cons rfl (.cons rfl .nil)) (fun w hw => (c_cellI (u := crd p1 f1 st) (n := (W : Int)) (by omega)))) ?_
  refine VL.r (.inl rfl) rfl (by decide) (yr_move rfl rfl) ?_
  refine VL.r (.inl rfl) rfl (by decide) (yr_extract rfl rfl rfl (by nofun)) ?_
  refine VL.r (.inl rfl) rfl (by decide) (yr_extract rfl rfl rfl (by nofun)) ?_
  refine VL.new1 (.inl rfl) rfl (by decide) (yn_alloc rfl zero2_Val rfl) ?_
  intro b6
  refine VL.new1 (.inl rfl) rfl (by decide) (yn_alloc rfl zero23_Val rfl) ?_
  intro b7
  refine VL.s (.inl rfl) rfl (yc_store rfl sz2_Val rfl rfl (by repeat (first | exact UpdF.here | apply UpdF.there | apply UpdF.thereS)) (.inl ⟨rfl, rfl⟩) rfl (by first | exact Nat.le_of_ble_eq_true rfl | simp) (by decide) rfl) ?_
  rintro ⟨⟩
  refine VL.s (.inl rfl) rfl (yc_store rfl sz23_Val rfl rfl (by repeat (first | exact UpdF.here | apply UpdF.there | apply UpdF.thereS)) (.inl ⟨rfl, rfl⟩) rfl (by first | exact Nat.le_of_ble_eq_true rfl | simp) (by decide) rfl) ?_
  rintro ⟨⟩
  refine VL.nil ?_
  refine VE.then_wp ?_
  refine V.seq ?_
  refine V.region ?_
  refine VL.r (.inl rfl) rfl (by decide) (yr_fieldAddr rfl Try.underlying27 rfl rfl sz23_Val (by decide) rfl) ?_
  refine VL.q (.inl rfl) rfl (by decide) (yq_load rfl fb23_Val rfl (by first | exact Sees.root (by assumption) | exact Sees.own (by repeat (first | exact List.mem_cons_self | exact List.mem_append_left _ (by assumption) | apply List.mem_cons_of_mem | apply List.mem_append_right)) | exact Sees.root (hR _ (by omega)) | exact Sees.own (RowsIn.mem (by repeat (first | exact RowsIn.here | exact RowsIn.last | apply RowsIn.there | apply RowsIn.thereS)) _ (by omega)) | exact Sees.own (WRowsIn.mem (by repeat (first | exact WRowsIn.here | exact WRowsIn.last | apply WRowsIn.there | apply WRowsIn.thereS)) _ (by omega))) rfl) ?_
  refine VL.r (.inl rfl) rfl (by decide) (yr_fieldAddr rfl Try.underlying30 rfl rfl sz23_Val (by decide) rfl) ?_
  refine VL.q (.inl rfl) rfl (by decide) (yq_load rfl fb23_Val rfl (by first | exact Sees.root (by assumption) | exact Sees.own (by repeat (first | exact List.mem_cons_self | exact List.mem_append_left _ (by assumption) | apply List.mem_cons_of_mem | apply List.mem_append_right)) | exact Sees.root (hR _ (by omega)) | exact Sees.own (RowsIn.mem (by repeat (first | exact RowsIn.here | exact RowsIn.last | apply RowsIn.there | apply RowsIn.thereS)) _ (by omega)) | exact Sees.own (WRowsIn.mem (by repeat (first | exact WRowsIn.here | exact WRowsIn.last | apply WRowsIn.there | apply WRowsIn.thereS)) _ (by omega))) rfl) ?_
  refine VL.r (.inl rfl) rfl (by decide) (yr_float rfl (.inr (.inr (.inr rfl))) rfl rfl) ?_
  refine VL.r (.inl rfl) rfl (by decide) (yr_fieldAddr rfl Try.underlying30 rfl rfl sz2_Val (by decide) rfl) ?_
  refine VL.q (.inl rfl) rfl (by decide) (yq_load rfl fb2_Val rfl (by first | exact Sees.root (by assumption) | exact Sees.own (by repeat (first | exact List.mem_cons_self | exact List.mem_append_left _ (by assumption) | apply List.mem_cons_of_mem | apply List.mem_append_right)) | exact Sees.root (hR _ (by omega)) | exact Sees.own (RowsIn.mem (by repeat (first | exact RowsIn.here | exact RowsIn.last | apply RowsIn.there | apply RowsIn.thereS)) _ (by omega)) | exact Sees.own (WRowsIn.mem (by repeat (first | exact WRowsIn.here | exact WRowsIn.last | apply WRowsIn.there | apply WRowsIn.thereS)) _ (by omega))) rfl) ?_
  refine VL.q (.inl rfl) rfl (by decide) (yq_callf rfl known145_Val (.cons rfl (.cons rfl .nil)) (fun w hw => (c_cellI (u := crd p2 f2 st) (n := (H : Int)) (by omega)))) ?_
  refine VL.r (.inl rfl) rfl (by decide) (yr_move rfl rfl) ?_
  refine VL.r (.inl rfl) rfl (by decide) (yr_extract rfl rfl rfl (by nofun)) ?_
  refine VL.r (.inl rfl) rfl (by decide) (yr_extract rfl rfl rfl (by nofun)) ?_
  refine VL.new1 (.inl rfl) rfl (by decide) (yn_alloc rfl zero2_Val rfl) ?_
  intro b8
  refine VL.new1 (.inl rfl) rfl (by decide) (yn_alloc rfl zero23_Val rfl) ?_
  intro b9
  refine VL.s (.inl rfl) rfl (yc_store rfl sz2_Val rfl rfl (by repeat (first | exact UpdF.here | apply UpdF.there | apply UpdF.thereS)) (.inl ⟨rfl, rfl⟩) rfl (by first | exact Nat.le_of_ble_eq_true rfl | simp) (by decide) rfl) ?_
  rintro ⟨⟩
  refine VL.s (.inl rfl) rfl (yc_store rfl sz23_Val rfl rfl (by repeat (first | exact UpdF.here | apply UpdF.there | apply UpdF.thereS)) (.inl ⟨rfl, rfl⟩) rfl (by first | exact Nat.le_of_ble_eq_true rfl | simp) (by decide) rfl) ?_
  rintro ⟨⟩
  refine VL.nil ?_
  refine VE.then_wp ?_
  refine V.seq ?_
  refine V.region ?_
  refine VL.r (.inl rfl) rfl (by decide) (yr_fieldAddr rfl Try.underlying27 rfl rfl sz23_Val (by decide) rfl) ?_
  refine VL.q (.inl rfl) rfl (by decide) (yq_load rfl fb23_Val rfl (by first | exact Sees.root (by assumption) | exact Sees.own (by repeat (first | exact List.mem_cons_self | exact List.mem_append_left _ (by assumption) | apply List.mem_cons_of_mem | apply List.mem_append_right)) | exact Sees.root (hR _ (by omega)) | exact Sees.own (RowsIn.mem (by repeat (first | exact RowsIn.here | exact RowsIn.last | apply RowsIn.there | apply RowsIn.thereS)) _ (by omega)) | exact Sees.own (WRowsIn.mem (by repeat (first | exact WRowsIn.here | exact WRowsIn.last | apply WRowsIn.there | apply WRowsIn.thereS)) _ (by omega))) rfl) ?_
  refine VL.r (.inl rfl) rfl (by decide) (yr_fieldAddr rfl Try.underlying30 rfl rfl sz23_Val (by decide) rfl) ?_
  refine VL.q (.inl rfl) rfl (by decide) (yq_load rfl fb23_Val rfl (by first | exact Sees.root (by assumption) | exact Sees.own (by repeat (first | exact List.mem_cons_self | exact List.mem_append_left _ (by assumption) | apply List.mem_cons_of_mem | apply List.mem_append_right)) | exact Sees.root (hR _ (by omega)) | exact Sees.own (RowsIn.mem (by repeat (first | exact RowsIn.here | exact RowsIn.last | apply RowsIn.there | apply RowsIn.thereS)) _ (by omega)) | exact Sees.own (WRowsIn.mem (by repeat (first | exact WRowsIn.here | exact WRowsIn.last | apply WRowsIn.there | apply WRowsIn.thereS)) _ (by omega))) rfl) ?_
  refine VL.r (.inl rfl) rfl (by decide) (yr_float rfl (.inr (.inr (.inr rfl))) rfl rfl) ?_
  refine VL.r (.inl rfl) rfl (by decide) (yr_fieldAddr rfl Try.underlying30 rfl rfl sz2_Val (by decide) rfl) ?_
  refine VL.q (.inl rfl) rfl (by decide) (yq_load rfl fb2_Val rfl (by first | exact Sees.root (by assumption) | exact Sees.own (by repeat (first | exact List.mem_cons_self | exact List.mem_append_left _ (by assumption) | apply List.mem_cons_of_mem | apply List.mem_append_right)) | exact Sees.root (hR _ (by omega)) | exact Sees.own (RowsIn.mem (by repeat (first | exact RowsIn.here | exact RowsIn.last | apply RowsIn.there | apply RowsIn.thereS)) _ (by omega)) | exact Sees.own (WRowsIn.mem (by repeat (first | exact WRowsIn.here | exact WRowsIn.last | apply WRowsIn.there | apply WRowsIn.thereS)) _ (by omega))) rfl) ?_
  refine VL.q (.inl rfl) rfl (by decide) (yq_callf rfl known145_Val (.cons rfl (.cons rfl .nil)) (fun w hw => (c_cellI (u := crd p3 f3 st) (n := (D : Int)) (by omega)))) ?_
  refine VL.r (.inl rfl) rfl (by decide) (yr_move rfl rfl) ?_
  refine VL.r (.inl rfl) rfl (by decide) (yr_extract rfl rfl rfl (by nofun)) ?_
  refine VL.r (.inl rfl) rfl (by decide) (yr_extract rfl rfl rfl (by nofun)) ?_
  refine VL.r (.inl rfl) rfl (by decide) (yr_assign rfl rfl) ?_
  refine VL.r (.inl rfl) rfl (by decide) (yr_assign rfl rfl) ?_
  refine VL.nil ?_
  refine VE.then_wp ?_
  refine V.seq ?_
  refine V.region ?_
  refine VL.r (.inl rfl) rfl (by decide) (yr_func3 rfl rfl rfl rfl) ?_
  refine VL.new1 (.inl rfl) rfl (by decide) (yn_alloc rfl zero158_Val rfl) ?_
  intro b12
  refine VL.s (.inl rfl) rfl (yc_store rfl sz158_Val rfl rfl (by repeat (first | exact UpdF.here | apply UpdF.there | apply UpdF.thereS)) (.inl ⟨rfl, rfl⟩) rfl (by first | exact Nat.le_of_ble_eq_true rfl | simp) (by decide) rfl) ?_
  rintro ⟨⟩
  refine VL.nil ?_
  refine VE.then_wp ?_
  refine V.seq ?_
  refine V.region ?_
  refine VL.r (.inl rfl) rfl (by decide) (yr_func4 rfl rfl rfl rfl rfl) ?_
  refine VL.r (.inl rfl) rfl (by decide) (yr_assign rfl rfl) ?_
  refine VL.nil ?_
  refine VE.then_wp ?_
  refine V.seq ?_
  refine V.seq ?_
  refine V.region ?_
  refine VL.r (.inl rfl) rfl (by decide) (yr_fieldAddr rfl Try.underlying30 rfl rfl sz2_Val (by decide) rfl) ?_
  refine VL.q (.inl rfl) rfl (by decide) (yq_load rfl fb2_Val rfl (by first | exact Sees.root (by assumption) | exact Sees.own (by repeat (first | exact List.mem_cons_self | exact List.mem_append_left _ (by assumption) | apply List.mem_cons_of_mem | apply List.mem_append_right)) | exact Sees.root (hR _ (by omega)) | exact Sees.own (RowsIn.mem (by repeat (first | exact RowsIn.here | exact RowsIn.last | apply RowsIn.there | apply RowsIn.thereS)) _ (by omega)) | exact Sees.own (WRowsIn.mem (by repeat (first | exact WRowsIn.here | exact WRowsIn.last | apply WRowsIn.there | apply WRowsIn.thereS)) _ (by omega))) rfl) ?_
  refine VL.r (.inl rfl) rfl (by decide) (yr_icmp rfl (.inl rfl) rfl rfl) ?_
  refine VL.nil ?_
  refine VE.then_wp ?_
  refine V.cond rfl (fun h1 => ?_) (fun h1 => ?_)
  · skip
    replace h1 := ic_eql h1
    refine V.seq ?_
    refine V.region ?_
    refine VL.r (.inl rfl) rfl (by decide) (yr_move rfl rfl) ?_
    refine VL.r (.inl rfl) rfl (by decide) (yr_move rfl rfl) ?_
    refine VL.q (.inl rfl) rfl (by decide) (yq_call rfl known148_Val rfl (.cons rfl .nil) (fun w hw => c_alongY (i := (celI (crd p1 f1 st) (W : Int)).1) (s := (celI (crd p1 f1 st) (W : Int)).2) (j := (celI (crd p2 f2 st) (H : Int)).1) (t := (celI (crd p2 f2 st) (H : Int)).2) (z := (celI (crd p3 f3 st) (D : Int)).1) (vs := vs) (W := W) (H := H) (D := D) (by first | exact Sees.root (by assumption) w hw | exact Sees.own (by repeat (first | exact List.mem_cons_self | exact List.mem_append_left _ (by assumption) | apply List.mem_cons_of_mem | apply List.mem_append_right)) w hw) (by first | exact Sees.root (by assumption) w hw | exact Sees.own (by repeat (first | exact List.mem_cons_self | exact List.mem_append_left _ (by assumption) | apply List.mem_cons_of_mem | apply List.mem_append_right)) w hw) (by first | exact Sees.root (by assumption) w hw | exact Sees.own (by repeat (first | exact List.mem_cons_self | exact List.mem_append_left _ (by assumption) | apply List.mem_cons_of_mem | apply List.mem_append_right)) w hw) (by first | exact Sees.root (by assumption) w hw | exact Sees.own (by repeat (first | exact List.mem_cons_self | exact List.mem_append_left _ (by assumption) | apply List.mem_cons_of_mem | apply List.mem_append_right)) w hw) (by first | exact Sees.root (by assumption) w hw | exact Sees.own (by repeat (first | exact List.mem_cons_self | exact List.mem_append_left _ (by assumption) | apply List.mem_cons_of_mem | apply List.mem_append_right)) w hw) (by first | exact Sees.root (by assumption) w hw | exact Sees.own (by repeat (first | exact List.mem_cons_self | exact List.mem_append_left _ (by assumption) | apply List.mem_cons_of_mem | apply List.mem_append_right)) w hw) (by first | exact Sees.root (by assumption) w hw | exact Sees.own (by repeat (first | exact List.mem_cons_self | exact List.mem_append_left _ (by assumption) | apply List.mem_cons_of_mem | apply List.mem_append_right)) w hw) hN hbd hW hH hD hci hcj (by omega))) ?_
    refine VL.s (.inl rfl) rfl (yc_store rfl sz27_Val rfl rfl (by repeat (first | exact UpdF.here | apply UpdF.there | apply UpdF.thereS)) (.inr ⟨rfl, rfl⟩) rfl (by first | exact Nat.le_of_ble_eq_true rfl | simp) (by decide) rfl) ?_
    rintro ⟨⟩
    refine VL.nil ?_
    refine VE.then_wp ?_
    refine V.ret ?_
    refine VE.then_ret ?_
    refine retC rfl (rv_cellS rfl Try.underlying27 sz27_Val (by first | exact Sees.root (by assumption) | exact Sees.own (by repeat (first | exact List.mem_cons_self | exact List.mem_append_left _ (by assumption) | apply List.mem_cons_of_mem | apply List.mem_append_right)) | exact Sees.root (hR _ (by omega)) | exact Sees.own (RowsIn.mem (by repeat (first | exact RowsIn.here | exact RowsIn.last | apply RowsIn.there | apply RowsIn.thereS)) _ (by omega)) | exact Sees.own (WRowsIn.mem (by repeat (first | exact WRowsIn.here | exact WRowsIn.last | apply WRowsIn.there | apply WRowsIn.thereS)) _ (by omega))) rfl rfl rfl) (by nofun) (fun w1 hw => ?_)
    first
      | exact ⟨congrArg vv (val_1 (vs := vs) (W := W) (H := H) (D := D) (c := (celI (crd p1 f1 st) (W : Int))) (d := (celI (crd p2 f2 st) (H : Int))) (e := (celI (crd p3 f3 st) (D : Int))) (by omega)).symm, hw.below⟩
      | exact ⟨congrArg vv (val_n (vs := vs) (W := W) (H := H) (D := D) (c := (celI (crd p1 f1 st) (W : Int))) (d := (celI (crd p2 f2 st) (H : Int))) (e := (celI (crd p3 f3 st) (D : Int))) (by omega)).symm, hw.below⟩
  · skip
    replace h1 := ic_eql' h1
    refine V.skip ?_
    refine VE.then_wp ?_
    refine V.seq ?_
    refine V.region ?_
    refine VL.r (.inl rfl) rfl (by decide) (yr_move rfl rfl) ?_
    refine VL.r (.inl rfl) rfl (by decide) (yr_move rfl rfl) ?_
    refine VL.q (.inl rfl) rfl (by decide) (yq_call rfl known148_Val rfl (.cons rfl .nil) (fun w hw => c_alongY (i := (celI (crd p1 f1 st) (W : Int)).1) (s := (celI (crd p1 f1 st) (W : Int)).2) (j := (celI (crd p2 f2 st) (H : Int)).1) (t := (celI (crd p2 f2 st) (H : Int)).2) (z := (celI (crd p3 f3 st) (D : Int)).1) (vs := vs) (W := W) (H := H) (D := D) (by first | exact Sees.root (by assumption) w hw | exact Sees.own (by repeat (first | exact List.mem_cons_self | exact List.mem_append_left _ (by assumption) | apply List.mem_cons_of_mem | apply List.mem_append_right)) w hw) (by first | exact Sees.root (by assumption) w hw | exact Sees.own (by repeat (first | exact List.mem_cons_self | exact List.mem_append_left _ (by assumption) | apply List.mem_cons_of_mem | apply List.mem_append_right)) w hw) (by first | exact Sees.root (by assumption) w hw | exact Sees.own (by repeat (first | exact List.mem_cons_self | exact List.mem_append_left _ (by assumption) | apply List.mem_cons_of_mem | apply List.mem_append_right)) w hw) (by first | exact Sees.root (by assumption) w hw | exact Sees.own (by repeat (first | exact List.mem_cons_self | exact List.mem_append_left _ (by assumption) | apply List.mem_cons_of_mem | apply List.mem_append_right)) w hw) (by first | exact Sees.root (by assumption) w hw | exact Sees.own (by repeat (first | exact List.mem_cons_self | exact List.mem_append_left _ (by assumption) | apply List.mem_cons_of_mem | apply List.mem_append_right)) w hw) (by first | exact Sees.root (by assumption) w hw | exact Sees.own (by repeat (first | exact List.mem_cons_self | exact List.mem_append_left _ (by assumption) | apply List.mem_cons_of_mem | apply List.mem_append_right)) w hw) (by first | exact Sees.root (by assumption) w hw | exact Sees.own (by repeat (first | exact List.mem_cons_self | exact List.mem_append_left _ (by assumption) | apply List.mem_cons_of_mem | apply List.mem_append_right)) w hw) hN hbd hW hH hD hci hcj (by omega))) ?_
    refine VL.r (.inl rfl) rfl (by decide) (yr_move rfl rfl) ?_
    refine VL.r (.inl rfl) rfl (by decide) (yr_move rfl rfl) ?_
    refine VL.r (.inl rfl) rfl (by decide) (yr_addN ((celI (crd p3 f3 st) (D : Int)).1 + 1) rfl rfl rfl (by push_cast; rfl) (by omega)) ?_
    refine VL.q (.inl rfl) rfl (by decide) (yq_call rfl known148_Val rfl (.cons rfl .nil) (fun w hw => c_alongY (i := (celI (crd p1 f1 st) (W : Int)).1) (s := (celI (crd p1 f1 st) (W : Int)).2) (j := (celI (crd p2 f2 st) (H : Int)).1) (t := (celI (crd p2 f2 st) (H : Int)).2) (z := (celI (crd p3 f3 st) (D : Int)).1 + 1) (vs := vs) (W := W) (H := H) (D := D) (by first | exact Sees.root (by assumption) w hw | exact Sees.own (by repeat (first | exact List.mem_cons_self | exact List.mem_append_left _ (by assumption) | apply List.mem_cons_of_mem | apply List.mem_append_right)) w hw) (by first | exact Sees.root (by assumption) w hw | exact Sees.own (by repeat (first | exact List.mem_cons_self | exact List.mem_append_left _ (by assumption) | apply List.mem_cons_of_mem | apply List.mem_append_right)) w hw) (by first | exact Sees.root (by assumption) w hw | exact Sees.own (by repeat (first | exact List.mem_cons_self | exact List.mem_append_left _ (by assumption) | apply List.mem_cons_of_mem | apply List.mem_append_right)) w hw) (by first | exact Sees.root (by assumption) w hw | exact Sees.own (by repeat (first | exact List.mem_cons_self | exact List.mem_append_left _ (by assumption) | apply List.mem_cons_of_mem | apply List.mem_append_right)) w hw) (by first | exact Sees.root (by assumption) w hw | exact Sees.own (by repeat (first | exact List.mem_cons_self | exact List.mem_append_left _ (by assumption) | apply List.mem_cons_of_mem | apply List.mem_append_right)) w hw) (by first | exact Sees.root (by assumption) w hw | exact Sees.own (by repeat (first | exact List.mem_cons_self | exact List.mem_append_left _ (by assumption) | apply List.mem_cons_of_mem | apply List.mem_append_right)) w hw) (by first | exact Sees.root (by assumption) w hw | exact Sees.own (by repeat (first | exact List.mem_cons_self | exact List.mem_append_left _ (by assumption) | apply List.mem_cons_of_mem | apply List.mem_append_right)) w hw) hN hbd hW hH hD hci hcj (by omega))) ?_
    refine VL.r (.inl rfl) rfl (by decide) (yr_move rfl rfl) ?_
    refine VL.q (.inl rfl) rfl (by decide) (yq_callf rfl known147_Val (.cons rfl (.cons rfl (.cons rfl .nil))) (fun w hw => c_between)) ?_
    refine VL.s (.inl rfl) rfl (yc_store rfl sz27_Val rfl rfl (by repeat (first | exact UpdF.here | apply UpdF.there | apply UpdF.thereS)) (.inr ⟨rfl, rfl⟩) rfl (by first | exact Nat.le_of_ble_eq_true rfl | simp) (by decide) rfl) ?_
    rintro ⟨⟩
    refine VL.nil ?_
    refine VE.then_wp ?_
    refine V.ret ?_
    refine retC rfl (rv_cellS rfl Try.underlying27 sz27_Val (by first | exact Sees.root (by assumption) | exact Sees.own (by repeat (first | exact List.mem_cons_self | exact List.mem_append_left _ (by assumption) | apply List.mem_cons_of_mem | apply List.mem_append_right)) | exact Sees.root (hR _ (by omega)) | exact Sees.own (RowsIn.mem (by repeat (first | exact RowsIn.here | exact RowsIn.last | apply RowsIn.there | apply RowsIn.thereS)) _ (by omega)) | exact Sees.own (WRowsIn.mem (by repeat (first | exact WRowsIn.here | exact WRowsIn.last | apply WRowsIn.there | apply WRowsIn.thereS)) _ (by omega))) rfl rfl rfl) (by nofun) (fun w1 hw => ?_)
    first
      | exact ⟨congrArg vv (val_1 (vs := vs) (W := W) (H := H) (D := D) (c := (celI (crd p1 f1 st) (W : Int))) (d := (celI (crd p2 f2 st) (H : Int))) (e := (celI (crd p3 f3 st) (D : Int))) (by omega)).symm, hw.below⟩
      | exact ⟨congrArg vv (val_n (vs := vs) (W := W) (H := H) (D := D) (c := (celI (crd p1 f1 st) (W : Int))) (d := (celI (crd p2 f2 st) (H : Int))) (e := (celI (crd p3 f3 st) (D : Int))) (by omega)).symm, hw.below⟩

end Go.Proofs.Ytfignpiphihgfaa


namespace Go.Proofs.Ytfignpiphihgfaa
open Go.RowKit
def Mx (ks : Nat → Nat) : Nat → Nat
  | 0 => 0
  | k + 1 => maxn (Mx ks k) (dst (ks k))
section
variable {ks : Nat → Nat} {n M : Nat} {vs us : List V3}
/-- The numbers are the quarters ks. -/
def Qs (vs : List V3) (ks : Nat → Nat) (n : Nat) : Prop := ∀ j, j < n → ks j < 17 ∧ num vs j = qw (ks j)
end
/-! ### what the text says -/
section
variable {f : V3} {st : Nat} {W H D : Nat} {vs : List V3}
end
end Go.Proofs.Ytfignpiphihgfaa


namespace Go.Proofs.Ytfignpiphihgfaa
open Go.RowKit Go.Deep
section
variable {P : Program} {w0 : World} {O : List Ent} {E : Env} {o : Oper}
theorem YQ.cast {u u' : Value} (h : u = u') (hy : YQ P w0 O E o u) : YQ P w0 O E o u' := h ▸ hy
end
/-! ### texts that are cut, or longer -/
/-! ### a mesh of quarters -/
theorem hqw_fin : ∀ k : Fin 9, fin (hqw k) = true := by decide +kernel
theorem half_ok : above 1056964608 = true ∧ fin 0 = true ∧ Can .f32 1056964608 := by
  refine ⟨by decide +kernel, by decide +kernel, by decide +kernel, by decide⟩
/-- What the law asks of a drawn mesh: T is its text. -/
structure PmF (k W H D : Nat) (vs : List V3) (T : ByteArray) (ks : Nat → Nat) : Prop where
  hT : pkT (hqw k, 0, 0) 1056964608 (W : Int) (H : Int) (D : Int) vs = T
  hk : pkOk (hqw k, 0, 0) 1056964608 (W : Int) (H : Int) (D : Int) vs = true
  ok : unOk T = true
  hT2 : pkT ((unG T).1, (unG T).2.1, (unG T).2.2) (unS T) (unI T 4) (unI T 5) (unI T 6) (unR T) = T
  hk2 : pkOk ((unG T).1, (unG T).2.1, (unG T).2.2) (unS T) (unI T 4) (unI T 5) (unI T 6) (unR T) = true
  len : (unR T).length = vs.length
  num : ∀ j, j < vs.length * 3 → num (unR T) j = rvw (Mx ks (vs.length * 3)) (ks j)
  qs : Qs vs ks (vs.length * 3)
  hX : Cans3 vs
  hf : Can3 (hqw k, 0, 0)
  hN : vs.length ≤ 48
section
variable {vs us : List V3} {ks : Nat → Nat} {i M : Nat}
end
end Go.Proofs.Ytfignpiphihgfaa


namespace Go.Proofs.Ytfignpiphihgfaa
open Go.RowKit

/-- an eighth -/
def ew (k : Nat) : Nat := fop .quo .f32 (FloatKind.f32.nearest ((k : Int) - 16)) 1090519040
/-- steps in halves -/
def uhw (j : Nat) : Nat := fop .quo .f32 (FloatKind.f32.nearest (j : Int)) 1073741824
def pcw (f st x : Nat) : Nat := fop .add .f32 f (fop .mul .f32 (FloatKind.f32.nearest (x : Int)) st)
def bt1 (a b k : Nat) : Nat := fop .add .f32 a (fop .mul .f32 (fop .sub .f32 b a) k)
theorem tE1 : ∀ i j : Fin 33, (bt1 (ew i) (ew j) 0 == ew i && bt1 (ew i) (ew j) 1065353216 == ew j) = true := by decide +kernel
theorem tE2 : ∀ i j : Fin 17, (bt1 (qw i) (qw j) 1056964608 == ew (i.val + j.val) && fop .mul .f32 (fop .add .f32 (qw i) (qw j)) 1056964608 == ew (i.val + j.val)) = true := by decide +kernel
theorem tE3 : ∀ i : Fin 17, (qw i == ew (2 * i.val) && fop .add .f32 (qw i) (qw i) == fop .mul .f32 (qw i) 1073741824) = true := by decide +kernel
theorem tE4 : ∀ i : Fin 33, (fin (ew i) && !fnan .f32 (ew i)) = true := by decide +kernel
theorem tP1 : ∀ k : Fin 9, ∀ x : Fin 4, (crd (pcw (hqw k) 1056964608 x) (hqw k) 1056964608 == uhw (2 * x.val) && fin (pcw (hqw k) 1056964608 x) && crd (fop .add .f32 (pcw (hqw k) 1056964608 x) 1048576000) (hqw k) 1056964608 == uhw (2 * x.val + 1) && fin (fop .add .f32 (pcw (hqw k) 1056964608 x) 1048576000) && fop .add .f32 (pcw (hqw k) 1056964608 x) 0 == pcw (hqw k) 1056964608 x && !fnan .f32 (pcw (hqw k) 1056964608 x)) = true := by decide +kernel
theorem tP2 : hqw 4 = 0 := by decide +kernel
theorem tP3 : ∀ k : Fin 9, ∀ x : Fin 2, (pcw (hqw k) 1065353216 x == pcw (hqw k) 1056964608 (2 * x.val)) = true := by decide +kernel
theorem tP4 : ∀ x y : Fin 4, (fin (pcw (pcw 0 1056964608 x) 1056964608 y)) = true := by decide +kernel
theorem tP5 : ∀ k : Fin 9, (pcw (hqw k) 1056964608 0 == hqw k && !fnan .f32 (hqw k)) = true := by decide +kernel
theorem tC1 : ∀ x : Fin 4, ∀ n : Fin 5, (decide (n.val ≤ x.val) || n.val == 1 || celI (uhw (2 * x.val)) (n.val : Int) == (if x.val + 1 < n.val then (x.val, 0) else (x.val - 1, 1065353216))) = true := by decide +kernel
theorem tC2 : ∀ x : Fin 4, ∀ n : Fin 5, (decide (n.val ≤ x.val + 1) || celI (uhw (2 * x.val + 1)) (n.val : Int) == (x.val, 1056964608)) = true := by decide +kernel
theorem fin_e8 : fin 1040187392 = true := by decide +kernel
theorem tS1 : (fop .mul .f32 1073741824 1056964608 == 1065353216 && above 1065353216 && above 1056964608) = true := by decide +kernel
/-! ### what the tables say -/
def E33 (v : V3) : Prop := ∃ i j l : Nat, (i < 33 ∧ j < 33 ∧ l < 33) ∧ v = (ew i, ew j, ew l)
section
variable {a b v : V3} {i j k x y z W H D n : Nat} {vs : List V3}
theorem qw_ew (h : i < 17) : qw i = ew (2 * i) ∧ fop .add .f32 (qw i) (qw i) = fop .mul .f32 (qw i) 1073741824 := by
  have := tE3 ⟨i, h⟩
  simp only [Bool.and_eq_true, beq_iff_eq] at this
  exact this
theorem q3_e (h : Q3 v) : E33 v := by
  obtain ⟨i, j, l, ⟨h1, h2, h3⟩, rfl⟩ := h
  exact ⟨2 * i, 2 * j, 2 * l, ⟨by omega, by omega, by omega⟩, by rw [(qw_ew h1).1, (qw_ew h2).1, (qw_ew h3).1]⟩
theorem bt01 (hi : i < 33) (hj : j < 33) : bt1 (ew i) (ew j) 0 = ew i ∧ bt1 (ew i) (ew j) 1065353216 = ew j := by
  have := tE1 ⟨i, hi⟩ ⟨j, hj⟩
  simp only [Bool.and_eq_true, beq_iff_eq] at this
  exact this
theorem btH (hi : i < 17) (hj : j < 17) : bt1 (qw i) (qw j) 1056964608 = ew (i + j) ∧ fop .mul .f32 (fop .add .f32 (qw i) (qw j)) 1056964608 = ew (i + j) := by
  have := tE2 ⟨i, hi⟩ ⟨j, hj⟩
  simp only [Bool.and_eq_true, beq_iff_eq] at this
  exact this
theorem btw_is (a b : V3) (k : Nat) : between3 a b k = (bt1 a.1 b.1 k, bt1 a.2.1 b.2.1 k, bt1 a.2.2 b.2.2 k) := rfl
theorem btw0 (ha : E33 a) (hb : E33 b) : between3 a b 0 = a := by
  obtain ⟨i, j, l, ⟨h1, h2, h3⟩, rfl⟩ := ha
  obtain ⟨p, q, r, ⟨g1, g2, g3⟩, rfl⟩ := hb
  rw [btw_is]
  simp only
  rw [(bt01 h1 g1).1, (bt01 h2 g2).1, (bt01 h3 g3).1]
theorem btw1 (ha : E33 a) (hb : E33 b) : between3 a b 1065353216 = b := by
  obtain ⟨i, j, l, ⟨h1, h2, h3⟩, rfl⟩ := ha
  obtain ⟨p, q, r, ⟨g1, g2, g3⟩, rfl⟩ := hb
  rw [btw_is]
  simp only
  rw [(bt01 h1 g1).2, (bt01 h2 g2).2, (bt01 h3 g3).2]
theorem btwH (ha : Q3 a) (hb : Q3 b) : between3 a b 1056964608 = scale3 (add3 a b) 1056964608 ∧ E33 (between3 a b 1056964608) := by
  obtain ⟨i, j, l, ⟨h1, h2, h3⟩, rfl⟩ := ha
  obtain ⟨p, q, r, ⟨g1, g2, g3⟩, rfl⟩ := hb
  rw [btw_is]
  unfold scale3 add3
  simp only
  rw [(btH h1 g1).1, (btH h2 g2).1, (btH h3 g3).1, (btH h1 g1).2, (btH h2 g2).2, (btH h3 g3).2]
  exact ⟨rfl, i + p, j + q, l + r, ⟨by omega, by omega, by omega⟩, rfl⟩
theorem add_tw (ha : Q3 a) : add3 a a = scale3 a 1073741824 := by
  obtain ⟨i, j, l, ⟨h1, h2, h3⟩, rfl⟩ := ha
  unfold scale3 add3
  simp only
  rw [(qw_ew h1).2, (qw_ew h2).2, (qw_ew h3).2]
theorem e_fin (ha : E33 a) : fin3 a = true ∧ (fnan .f32 a.1 = false ∧ fnan .f32 a.2.1 = false ∧ fnan .f32 a.2.2 = false) := by
  obtain ⟨i, j, l, ⟨h1, h2, h3⟩, rfl⟩ := ha
  have e1 := tE4 ⟨i, h1⟩
  have e2 := tE4 ⟨j, h2⟩
  have e3 := tE4 ⟨l, h3⟩
  simp only [Bool.and_eq_true, Bool.not_eq_true'] at e1 e2 e3
  unfold fin3
  simp only
  rw [e1.1, e2.1, e3.1]
  exact ⟨rfl, e1.2, e2.2, e3.2⟩
/-! ### cells -/
theorem cel0 (hx : x < n) (hn : n ≤ 4) (h1 : n ≠ 1) : celI (uhw (2 * x)) (n : Int) = (if x + 1 < n then (x, 0) else (x - 1, 1065353216)) := by
  have := tC1 ⟨x, by omega⟩ ⟨n, by omega⟩
  simp only [Bool.or_eq_true, decide_eq_true_eq, beq_iff_eq] at this
  rcases this with (h | h) | h
  · omega
  · omega
  · exact h
theorem celH (hx : x + 1 < n) (hn : n ≤ 4) : celI (uhw (2 * x + 1)) (n : Int) = (x, 1056964608) := by
  have := tC2 ⟨x, by omega⟩ ⟨n, by omega⟩
  simp only [Bool.or_eq_true, decide_eq_true_eq, beq_iff_eq] at this
  rcases this with h | h
  · omega
  · exact h
theorem cel1 (u : Nat) : celI u ((1 : Nat) : Int) = (0, 0) := rfl
theorem sel {g : Nat → V3} (hx : x < n) (hn : n ≤ 4) (hg : ∀ i, i < n → E33 (g i)) :
    (if n = 1 then g (celI (uhw (2 * x)) (n : Int)).1 else between3 (g (celI (uhw (2 * x)) (n : Int)).1) (g ((celI (uhw (2 * x)) (n : Int)).1 + 1)) (celI (uhw (2 * x)) (n : Int)).2) = g x := by
  by_cases h1 : n = 1
  · subst h1
    rw [if_pos rfl, cel1]
    have : x = 0 := by omega
    rw [this]
  · rw [if_neg h1, cel0 hx hn h1]
    by_cases h2 : x + 1 < n
    · rw [if_pos h2]
      exact btw0 (hg _ hx) (hg _ h2)
    · rw [if_neg h2]
      have := btw1 (hg (x - 1) (by omega)) (hg (x - 1 + 1) (by omega))
      rw [show x - 1 + 1 = x by omega] at this ⊢
      exact this
/-! ### nodes -/
theorem mval_q (hq : ∀ v ∈ vs, Q3 v) (hN : vs.length = W * H * D) (hb : W * H * D ≤ 216) (hx : x < W) (hy : y < H) (hz : z < D) : Q3 (mval vs W H x y z) := by
  have h := (nd_facts hx hy hz hb).2.2.2
  unfold mval
  rw [List.getD_eq_getElem?_getD, List.getElem?_eq_getElem (show nd W H x y z < vs.length by omega), Option.getD_some]
  exact hq _ (List.getElem_mem _)
theorem val_at {c : Nat × Nat} {r : Nat → Nat → V3} (hc : ∀ j l, j < H → l < D → rowV vs W H c j l = r j l ∧ E33 (r j l)) (hy : y < H) (hz : z < D) (hH : H ≤ 4) (hD : D ≤ 4) :
    valV vs W H D c (celI (uhw (2 * y)) (H : Int)) (celI (uhw (2 * z)) (D : Int)) = r y z := by
  have hcol : ∀ l, l < D → colV vs W H c (celI (uhw (2 * y)) (H : Int)) l = r y l := by
    intro l hl
    unfold colV
    rw [sel (g := fun j => rowV vs W H c j l) hy hH (fun i hi => by rw [(hc i l hi hl).1]; exact (hc i l hi hl).2)]
    exact (hc y l hy hl).1
  unfold valV
  rw [sel (g := fun l => colV vs W H c (celI (uhw (2 * y)) (H : Int)) l) hz hD (fun i hi => by rw [hcol i hi]; exact (hc y i hy hi).2)]
  exact hcol z hz
theorem row_at (hq : ∀ v ∈ vs, Q3 v) (hN : vs.length = W * H * D) (hb : W * H * D ≤ 216) (hx : x < W) (hW : W ≤ 4) (hy : y < H) (hz : z < D) : rowV vs W H (celI (uhw (2 * x)) (W : Int)) y z = mval vs W H x y z := by
  unfold rowV
  exact sel (g := fun i => mval vs W H i y z) hx hW (fun i hi => q3_e (mval_q hq hN hb hi hy hz))
theorem row_mid (hq : ∀ v ∈ vs, Q3 v) (hN : vs.length = W * H * D) (hb : W * H * D ≤ 216) (hx : x + 1 < W) (hW : W ≤ 4) (hy : y < H) (hz : z < D) :
    rowV vs W H (celI (uhw (2 * x + 1)) (W : Int)) y z = scale3 (add3 (mval vs W H x y z) (mval vs W H (x + 1) y z)) 1056964608 ∧ E33 (scale3 (add3 (mval vs W H x y z) (mval vs W H (x + 1) y z)) 1056964608) := by
  have h := btwH (mval_q hq hN hb (show x < W by omega) hy hz) (mval_q hq hN hb hx hy hz)
  unfold rowV
  rw [if_neg (by omega), celH hx hW]
  rw [← h.1]
  exact ⟨rfl, h.2⟩
/-! ### places -/
def plN (k x y z : Nat) : V3 := place3 (hqw k, 0, 0) 1056964608 (FloatKind.f32.nearest (x : Int)) (FloatKind.f32.nearest (y : Int)) (FloatKind.f32.nearest (z : Int))
theorem plN_is : plN k x y z = (pcw (hqw k) 1056964608 x, pcw (hqw 4) 1056964608 y, pcw (hqw 4) 1056964608 z) := by rw [tP2]; rfl
theorem pcf (hk : k < 9) (hx : x < 4) : crd (pcw (hqw k) 1056964608 x) (hqw k) 1056964608 = uhw (2 * x) ∧ fin (pcw (hqw k) 1056964608 x) = true ∧ crd (fop .add .f32 (pcw (hqw k) 1056964608 x) 1048576000) (hqw k) 1056964608 = uhw (2 * x + 1) ∧ fin (fop .add .f32 (pcw (hqw k) 1056964608 x) 1048576000) = true ∧ fop .add .f32 (pcw (hqw k) 1056964608 x) 0 = pcw (hqw k) 1056964608 x ∧ fnan .f32 (pcw (hqw k) 1056964608 x) = false := by
  have := tP1 ⟨k, hk⟩ ⟨x, hx⟩
  simp only [Bool.and_eq_true, beq_iff_eq, Bool.not_eq_true'] at this
  obtain ⟨⟨⟨⟨⟨h1, h2⟩, h3⟩, h4⟩, h5⟩, h6⟩ := this
  exact ⟨h1, h2, h3, h4, h5, h6⟩
theorem plN_fin (hk : k < 9) (hx : x < 4) (hy : y < 4) (hz : z < 4) : fin3 (plN k x y z) = true := by
  rw [plN_is]; unfold fin3
  simp only
  rw [(pcf hk hx).2.1, (pcf (k := 4) (by omega) hy).2.1, (pcf (k := 4) (by omega) hz).2.1]; rfl
theorem plN_nan (hk : k < 9) (hx : x < 4) (hy : y < 4) (hz : z < 4) : fnan .f32 (plN k x y z).1 = false ∧ fnan .f32 (plN k x y z).2.1 = false ∧ fnan .f32 (plN k x y z).2.2 = false := by
  rw [plN_is]
  exact ⟨(pcf hk hx).2.2.2.2.2, (pcf (k := 4) (by omega) hy).2.2.2.2.2, (pcf (k := 4) (by omega) hz).2.2.2.2.2⟩
theorem val_node (hq : ∀ v ∈ vs, Q3 v) (hN : vs.length = W * H * D) (hb : W * H * D ≤ 216) (hk : k < 9) (hx : x < W) (hW : W ≤ 4) (hy : y < H) (hH : H ≤ 4) (hz : z < D) (hD : D ≤ 4) :
    valI vs (hqw k, 0, 0) 1056964608 W H D (plN k x y z) = mval vs W H x y z := by
  unfold valI
  have e4 : hqw 4 = 0 := tP2
  rw [plN_is]
  simp only
  rw [(pcf hk (show x < 4 by omega)).1]
  have hy' := (pcf (k := 4) (by omega) (show y < 4 by omega)).1
  have hz' := (pcf (k := 4) (by omega) (show z < 4 by omega)).1
  rw [e4] at hy' hz' ⊢
  rw [hy', hz']
  exact val_at (r := fun j l => mval vs W H x j l) (fun j l hj hl => ⟨row_at hq hN hb hx hW hj hl, q3_e (mval_q hq hN hb hx hj hl)⟩) hy hz hH hD
theorem val_mid (hq : ∀ v ∈ vs, Q3 v) (hN : vs.length = W * H * D) (hb : W * H * D ≤ 216) (hk : k < 9) (hx : x + 1 < W) (hW : W ≤ 4) (hy : y < H) (hH : H ≤ 4) (hz : z < D) (hD : D ≤ 4) :
    valI vs (hqw k, 0, 0) 1056964608 W H D (add3 (plN k x y z) (1048576000, 0, 0)) = scale3 (add3 (mval vs W H x y z) (mval vs W H (x + 1) y z)) 1056964608 ∧ fin3 (add3 (plN k x y z) (1048576000, 0, 0)) = true := by
  unfold valI add3
  have e4 : hqw 4 = 0 := tP2
  have hx' := pcf hk (show x < 4 by omega)
  have hy' := pcf (k := 4) (by omega) (show y < 4 by omega)
  have hz' := pcf (k := 4) (by omega) (show z < 4 by omega)
  rw [plN_is]
  simp only
  rw [hy'.2.2.2.2.1, hz'.2.2.2.2.1, hx'.2.2.1]
  constructor
  · have hy1 := hy'.1
    have hz1 := hz'.1
    rw [e4] at hy1 hz1 ⊢
    rw [hy1, hz1]
    exact val_at (r := fun j l => scale3 (add3 (mval vs W H x j l) (mval vs W H (x + 1) j l)) 1056964608) (fun j l hj hl => row_mid hq hN hb hx hW hj hl) hy hz hH hD
  · unfold fin3
    simp only
    rw [hx'.2.2.2.1, hy'.2.1, hz'.2.1]; rfl
/-! ### layers, halves -/
def lyL (vs : List V3) (n z : Nat) : List V3 := (vs.drop (z * n)).take n
theorem lyL_length (hN : vs.length = W * H * D) (hz : z < D) : (lyL vs (W * H) z).length = W * H * 1 := by
  unfold lyL
  rw [List.length_take, List.length_drop, hN, Nat.mul_one]
  have : z * (W * H) + W * H ≤ W * H * D := by rw [← Nat.succ_mul, Nat.mul_comm]; exact Nat.mul_le_mul_left _ hz
  omega
theorem lyL_val (hN : vs.length = W * H * D) (hb : W * H * D ≤ 216) (hx : x < W) (hy : y < H) (hz : z < D) : mval (lyL vs (W * H) z) W H x y 0 = mval vs W H x y z := by
  have h1 := (nd_facts hx hy (show 0 < 1 by omega) (show W * H * 1 ≤ 216 by have := Nat.le_mul_of_pos_right (W * H) (show 0 < D by omega); omega)).2.2.2
  unfold mval lyL
  rw [List.getD_eq_getElem?_getD, List.getElem?_take, if_pos (by omega), List.getElem?_drop, ← List.getD_eq_getElem?_getD]
  congr 1
  have e : W * (y + H * z) = W * y + z * (W * H) := by rw [Nat.mul_add, ← Nat.mul_assoc, Nat.mul_comm z]
  unfold nd
  rw [Nat.mul_zero, Nat.add_zero, e]
  generalize z * (W * H) = t
  omega
def hfK (vs : List V3) (W H w h k : Nat) : List V3 := (List.range k).map fun i => mval vs W H (2 * (i % w)) (2 * (i / w % h)) (2 * (i / w / h))
theorem hfK_length {w h k : Nat} : (hfK vs W H w h k).length = k := by simp [hfK]
theorem hfK_snoc {w h : Nat} (hx : x < w) (hy : y < h) : vl (hfK vs W H w h (nd w h x y z)) ++ [.float .f32 (mval vs W H (2 * x) (2 * y) (2 * z)).1, .float .f32 (mval vs W H (2 * x) (2 * y) (2 * z)).2.1, .float .f32 (mval vs W H (2 * x) (2 * y) (2 * z)).2.2] = vl (hfK vs W H w h (nd w h x y z + 1)) := by
  rw [vl_snoc]; unfold hfK; rw [List.range_succ]; simp only [List.map_append, List.map_cons, List.map_nil]
  rw [nd_x hx, nd_y hx hy, nd_z hx hy]
theorem hfK_val {w h d : Nat} (hx : x < w) (hy : y < h) (hz : z < d) (hb : w * h * d ≤ 216) : mval (hfK vs W H w h (w * h * d)) w h x y z = mval vs W H (2 * x) (2 * y) (2 * z) := by
  have h1 := (nd_facts hx hy hz hb).2.2.2
  unfold mval hfK
  rw [List.getD_eq_getElem?_getD, List.getElem?_map, List.getElem?_range h1]
  simp only [Option.map_some, Option.getD_some]
  rw [nd_x hx, nd_y hx hy, nd_z hx hy]; rfl
theorem half_pl (hk : k < 9) (hx : x < 4) (hy : y < 4) (hz : z < 4) : place3 (hqw k, 0, 0) 1065353216 (FloatKind.f32.nearest ((x / 2 : Nat) : Int)) (FloatKind.f32.nearest ((y / 2 : Nat) : Int)) (FloatKind.f32.nearest ((z / 2 : Nat) : Int)) = plN k (x / 2 * 2) (y / 2 * 2) (z / 2 * 2) := by
  have key : ∀ (k x : Nat), k < 9 → x < 4 → pcw (hqw k) 1065353216 (x / 2) = pcw (hqw k) 1056964608 (x / 2 * 2) := by
    intro k x hk hx
    have := tP3 ⟨k, hk⟩ ⟨x / 2, by omega⟩
    simp only [beq_iff_eq] at this
    rw [this, Nat.mul_comm]
  rw [plN_is]
  show (pcw (hqw k) 1065353216 (x / 2), pcw 0 1065353216 (y / 2), pcw 0 1065353216 (z / 2)) = _
  rw [← tP2, key k x hk hx, key 4 y (by omega) hy, key 4 z (by omega) hz]
end
/-! ### vectors that are compared -/
def VEqB (P : Program) (t : TypeId) : Bool := match (P.fieldsOf t).toList with
  | [f1, f2, f3] => f1.name != "_" && f2.name != "_" && f3.name != "_" && f1.offset == 0 && f2.offset == 1 && f3.offset == 2 && f1.type == f2.type && f1.type == f3.type && (match P.underlying f1.type with | some (.float .f32) => true | _ => false) && !P.stoodInHeld t && !P.eqGuardType P.depth t
  | _ => false
section
variable {P : Program} {n : Nat} {w0 : World} {O : List Ent} {E : Env} {o : Oper}
theorem veqB_is {t : TypeId} (h : VEqB P t = true) : ∃ f1 f2 f3, (P.fieldsOf t).toList = [f1, f2, f3] ∧ (f1.name ≠ "_" ∧ f2.name ≠ "_" ∧ f3.name ≠ "_") ∧ (f1.offset = 0 ∧ f2.offset = 1 ∧ f3.offset = 2) ∧ f2.type = f1.type ∧ f3.type = f1.type ∧ P.underlying f1.type = some (.float .f32) ∧ P.stoodInHeld t = false ∧ P.eqGuardType P.depth t = false := by
  unfold VEqB at h
  split at h
  · rename_i f1 f2 f3 heq
    simp only [Bool.and_eq_true, bne_iff_ne, beq_iff_eq, Bool.not_eq_true'] at h
    obtain ⟨⟨⟨⟨⟨⟨⟨⟨⟨⟨h1, h2⟩, h3⟩, h4⟩, h5⟩, h6⟩, h7⟩, h8⟩, h9⟩, h10⟩, h11⟩ := h
    refine ⟨f1, f2, f3, heq, ⟨h1, h2, h3⟩, ⟨h4, h5, h6⟩, h7.symm, h8.symm, ?_, h10, h11⟩
    split at h9
    · assumption
    · cases h9
  · cases h
theorem run_isAgg_f {t : TypeId} (h : P.underlying t = some (.float .f32)) (w : World) : (isAgg t).run P w = .ok false w := run_isAgg_flat (by unfold flatB; rw [h]) w
theorem run_eqF {t : TypeId} (h : P.underlying t = some (.float .f32)) (d a b : Nat) (w : World) : (Op.equalIn (d + 1) t (.float .f32 a) (.float .f32 b)).run P w = .ok (Op.floatEq .f32 a b) w := by
  simp [Op.equalIn, run_underlying h]
theorem yr_veq {op : BinOp} {t ty : TypeId} {x y : Operand} {a b : V3} (ho : o.op = .binOp op t x y ty) (hop : op = .eql ∨ op = .neq) (ht : P.underlying t = some (.struct (P.fieldsOf t))) (hv : VEqB P t = true)
    (hx : E.opd x = some (vv a)) (hy : E.opd y = some (vv b)) (hab : a = b) (h1 : fnan .f32 a.1 = false) (h2 : fnan .f32 a.2.1 = false) (h3 : fnan .f32 a.2.2 = false) : YR P E o (.bool (match op with | .eql => true | _ => false)) := yr_of fun ρ w hE => by
  subst hab
  obtain ⟨f1, f2, f3, hfs, ⟨n1, n2, n3⟩, ⟨o1, o2, o3⟩, t2, t3, tu, hst, hg⟩ := veqB_is hv
  obtain ⟨xs, e1, e2⟩ := cn_agg (hE.get (x := x) (by simp [ho, Op.operands]) hx)
  obtain ⟨ys, g1, g2⟩ := cn_agg (hE.get (x := y) (by simp [ho, Op.operands]) hy)
  have key : ∀ {zs : Array Value}, zs.map cn0 = #[.float .f32 a.1, .float .f32 a.2.1, .float .f32 a.2.2] → ∃ b1 b2 b3, zs = #[.float .f32 b1, .float .f32 b2, .float .f32 b3] ∧ cb .f32 b1 = a.1 ∧ cb .f32 b2 = a.2.1 ∧ cb .f32 b3 = a.2.2 := by
    intro zs hz
    have hl := congrArg Array.toList hz
    rw [Array.toList_map] at hl
    have ez : zs = zs.toList.toArray := rfl
    rw [ez]
    generalize zs.toList = l at *
    match l, hl with
    | [z1, z2, z3], hl =>
      simp only [List.map_cons, List.map_nil, List.cons.injEq, and_true] at hl
      obtain ⟨q1, q2, q3⟩ := hl
      have c0 : ∀ {v : Value} {r : Nat}, cn0 v = .float .f32 r → ∃ b, v = .float .f32 b ∧ cb .f32 b = r := by
        intro v r hv
        cases v <;> simp [cn0] at hv ⊢
        obtain ⟨rfl, h⟩ := hv; exact ⟨_, ⟨rfl, rfl⟩, h⟩
      obtain ⟨b1, rfl, r1⟩ := c0 q1
      obtain ⟨b2, rfl, r2⟩ := c0 q2
      obtain ⟨b3, rfl, r3⟩ := c0 q3
      exact ⟨b1, b2, b3, rfl, r1, r2, r3⟩
    | [], hl => simp at hl
    | [_], hl => simp at hl
    | [_, _], hl => simp at hl
    | _ :: _ :: _ :: _ :: _, hl => simp at hl
  obtain ⟨x1, x2, x3, rfl, c1, c2, c3⟩ := key e2
  obtain ⟨y1, y2, y3, rfl, d1, d2, d3⟩ := key g2
  have feq : ∀ {p q r : Nat}, cb .f32 p = r → cb .f32 q = r → fnan .f32 r = false → Op.floatEq .f32 p q = true := by
    intro p q r hp hq hr
    have h9 : fcmp .eql .f32 (cb .f32 p) (cb .f32 q) = true := by
      rw [hp, hq]
      show (FloatKind.f32.format.order r r == some .eq) = true
      rw [order_self hr]; rfl
    rw [fcmp_cb] at h9
    exact h9
  have heq : (Op.equalIn 10000 t (.agg #[.float .f32 x1, .float .f32 x2, .float .f32 x3]) (.agg #[.float .f32 y1, .float .f32 y2, .float .f32 y3])).run P w = .ok true w := by
    rw [run_equalIn_agg w 9999 t _ _ ht hst, hfs]
    simp [Op.eqFields, n1, n2, n3, o1, o2, o3, t2, t3, part, run_isAgg_f tu, run_eqF tu 9998, feq c1 d1 h1, feq c2 d2 h2, feq c3 d3 h3]
  rcases hop with rfl | rfl
  · exact ⟨.bool true, by simp [execOp, ho, e1, g1, run_eqGuard_agg w _ t x y _ _ hg, run_eql_struct, heq], rfl⟩
  · exact ⟨.bool false, by simp [execOp, ho, e1, g1, run_eqGuard_agg w _ t x y _ _ hg, run_neq_struct, heq], rfl⟩
end
theorem vv_ne (a : V3) (z : Array Value) : ¬ (vv a = Value.tuple z) := by nofun
theorem neq_self {x : Nat} (h : fnan .f32 x = false) : fcmp .neq .f32 x x = false := by
  show (FloatKind.f32.format.order x x != some .eq) = false
  rw [order_self h]; rfl
/-! ### parts of rows of vectors -/
theorem vl_drop3 : ∀ (vs : List V3) (l : Nat), (vl vs).drop (l * 3) = vl (vs.drop l)
  | vs, 0 => by simp
  | [], l + 1 => by simp [vl]
  | v :: vs, l + 1 => by
    rw [show (l + 1) * 3 = l * 3 + 1 + 1 + 1 by omega]
    simp only [vl, List.drop_succ_cons]
    exact vl_drop3 vs l
theorem vl_take3 : ∀ (vs : List V3) (l : Nat), (vl vs).take (l * 3) = vl (vs.take l)
  | vs, 0 => by simp [vl]
  | [], l + 1 => by simp [vl]
  | v :: vs, l + 1 => by
    rw [show (l + 1) * 3 = l * 3 + 1 + 1 + 1 by omega]
    simp only [vl, List.take_succ_cons]
    rw [vl_take3 vs l]
theorem vl_part (vs : List V3) (l k : Nat) : ((vl vs).drop (l * 3)).take (k * 3) = vl ((vs.drop l).take k) := by rw [vl_drop3, vl_take3]
theorem map_snoc {h : V3 → V3} {vs : List V3} {k : Nat} (hk : k < vs.length) : vl ((vs.map h).take k) ++ [.float .f32 (h (vs.getD k z3)).1, .float .f32 (h (vs.getD k z3)).2.1, .float .f32 (h (vs.getD k z3)).2.2] = vl ((vs.map h).take (k + 1)) := by
  rw [vl_snoc]
  congr 1
  rw [List.take_add_one, List.getElem?_map, List.getElem?_eq_getElem hk, Option.map_some]
  have : vs.getD k z3 = vs[k] := by simp [List.getD, hk]
  rw [this]; rfl
theorem getD_snoc {ls : List V3} {v : V3} (h : 1 ≤ ls.length) : (ls ++ [v]).getD 0 z3 = ls.getD 0 z3 := by
  cases ls with
  | nil => simp at h
  | cons a l => rfl
/-! ### lines along any field -/
def dirF (F : V3 → V3 × Bool) (p : V3) : V3 × Bool := if (F p).2 then (ifV (unit3 (F p).1), fin3 (unit3 (F p).1)) else (z3, false)
def midF (F : V3 → V3 × Bool) (p : V3) (st : Nat) : V3 := add3 p (scale3 (dirF F p).1 (fop .mul .f32 1056964608 st))
def endF (F : V3 → V3 × Bool) (p : V3) (st : Nat) : V3 := add3 p (scale3 (dirF F (midF F p st)).1 st)
def stepF (F : V3 → V3 × Bool) (p : V3) (st : Nat) : V3 × Bool := if (dirF F p).2 && (dirF F (midF F p st)).2 then (ifV (endF F p st), fin3 (endF F p st)) else (z3, false)
section
variable {F : V3 → V3 × Bool} {p : V3} {st : Nat}
theorem dirF_no (h : (F p).2 = false) : Value.tuple #[vv z3, .bool false] = .tuple #[vv (dirF F p).1, .bool (dirF F p).2] := by unfold dirF; rw [h]; rfl
theorem dirF_yes (h : (F p).2 = true) : Value.tuple #[vv (ifV (unit3 (F p).1)), .bool (fin3 (unit3 (F p).1))] = .tuple #[vv (dirF F p).1, .bool (dirF F p).2] := by unfold dirF; rw [h]; rfl
theorem stepF_1 (h : (dirF F p).2 = false) : Value.tuple #[vv z3, .bool false] = .tuple #[vv (stepF F p st).1, .bool (stepF F p st).2] := by unfold stepF; rw [h]; rfl
theorem stepF_2 (h : (dirF F (midF F p st)).2 = false) : Value.tuple #[vv z3, .bool false] = .tuple #[vv (stepF F p st).1, .bool (stepF F p st).2] := by unfold stepF; rw [h, Bool.and_false]; rfl
theorem stepF_3 (h : (dirF F p).2 = true) (h2 : (dirF F (midF F p st)).2 = true) : Value.tuple #[vv (ifV (endF F p st)), .bool (fin3 (endF F p st))] = .tuple #[vv (stepF F p st).1, .bool (stepF F p st).2] := by unfold stepF; rw [h, h2]; rfl
end
/-- What stands between the nodes of a mesh. -/
def maF (vs : List V3) (f : V3) (st W H D : Nat) (p : V3) : V3 × Bool := if fin3 p then (ifV (valI vs f st W H D p), fin3 (valI vs f st W H D p)) else (z3, false)
section
variable {vs : List V3} {f p : V3} {st W H D : Nat}
theorem maF_no (h : fin3 p = false) : Value.tuple #[vv z3, .bool false] = .tuple #[vv (maF vs f st W H D p).1, .bool (maF vs f st W H D p).2] := by unfold maF; rw [h]; rfl
theorem maF_yes (h : fin3 p = true) : Value.tuple #[vv (ifV (valI vs f st W H D p)), .bool (fin3 (valI vs f st W H D p))] = .tuple #[vv (maF vs f st W H D p).1, .bool (maF vs f st W H D p).2] := by unfold maF; rw [h]; rfl
theorem maF_is {v : V3} (h : fin3 p = true) (hv : valI vs f st W H D p = v) (h2 : fin3 v = true) : maF vs f st W H D p = (v, true) := by
  unfold maF; rw [h, hv, h2]
  simp only [if_true]
  rw [← ifV_yes h2]
end
/-! ### what the law asks -/
structure NmF (k W H D : Nat) (vs : List V3) : Prop where
  hv : meshOk (hqw k, 0, 0) 1056964608 (W : Int) (H : Int) (D : Int) vs.length = true
  hN : vs.length = W * H * D
  hbd : W * H * D ≤ 48
  hk : k < 9
  hW : 1 ≤ W ∧ W ≤ 4
  hH : 1 ≤ H ∧ H ≤ 4
  hD : 1 ≤ D ∧ D ≤ 3
  hq : ∀ v ∈ vs, Q3 v
  hf : Can3 (hqw k, 0, 0)
  hnf : fnan .f32 (hqw k) = false ∧ fnan .f32 0 = false
  hadd : (vs.map fun v => scale3 v 1073741824) = vs.map fun v => add3 v v
  hX : Cans3 (vs.map fun v => add3 v v)
theorem mesh_yes {f : V3} {st W H D n : Nat} (h1 : fin3 f = true) (h2 : above st = true) (hW : 1 ≤ W ∧ W ≤ 216) (hH : 1 ≤ H ∧ H ≤ 216) (hD : 1 ≤ D ∧ D ≤ 216) (hb : W * H * D ≤ 216) (hn : n = W * H * D) : meshOk f st (W : Int) (H : Int) (D : Int) n = true := by
  have e : (W : Int) * H * D = ((W * H * D : Nat) : Int) := by rw [Int.natCast_mul, Int.natCast_mul]
  have e2 : szOk (W : Int) (H : Int) (D : Int) = true := szOk_yes (decide_eq_true (by omega)) (decide_eq_true (by omega)) (decide_eq_true (by omega)) (by rw [e]; omega)
  rw [← meshOk_last h1 h2 e2]
  show ((n : Int) == (W : Int) * H * D) = true
  rw [beq_iff_eq, hn, e]
theorem nm_facts {k W H D : Nat} {ar : Option Addr} {cr : Nat} {vs : List V3} (h : DM.ok ⟨k, W, H, D, ar, cr, vs⟩) : NmF k W H D vs := by
  obtain ⟨h1, h2, h4, h6, h8, h9⟩ := h
  simp only at h1 h2 h4 h6 h8 h9
  obtain ⟨z1, z2⟩ := sz48 h2.2 h4.2 h6.2
  have hf : fin3 (hqw k, 0, 0) = true := by unfold fin3; rw [hqw_fin ⟨k, h1⟩, half_ok.2.1]; rfl
  have hn := tP5 ⟨k, h1⟩
  simp only [Bool.and_eq_true, Bool.not_eq_true', beq_iff_eq] at hn
  refine ⟨mesh_yes hf half_ok.1 (by omega) (by omega) (by omega) (by omega) h8, h8, by omega, h1, h2, h4, h6, h9, ⟨can_fop _ _ _ _, can_f0, can_f0⟩, ⟨hn.2, by decide⟩, ?_, ?_⟩
  · exact List.map_congr_left fun v hv => (add_tw (h9 v hv)).symm
  · intro v hv
    obtain ⟨u, _, rfl⟩ := List.mem_map.1 hv
    exact can_add3 _ _
section
variable {k W H D x y z : Nat} {vs : List V3}
theorem NmF.small (h : NmF k W H D vs) : vs.length ≤ 1050000 := by have h1 := h.hN; have h2 := h.hbd; omega
theorem ly_f (hk : k < 9) : plN k 0 0 z = (hqw k, 0, pcw 0 1056964608 z) := by
  rw [plN_is]
  have h1 := tP5 ⟨k, hk⟩
  have h2 := tP5 ⟨4, by decide⟩
  simp only [Bool.and_eq_true, beq_iff_eq] at h1 h2
  rw [h1.1, h2.1, tP2]
theorem ly_ok (h : NmF k W H D vs) (hz : z < D) : meshOk (plN k 0 0 z) 1056964608 (W : Int) (H : Int) ((1 : Nat) : Int) (lyL vs (W * H) z).length = true :=
  mesh_yes (plN_fin h.hk (by omega) (by omega) (by have := h.hD; omega)) half_ok.1 (by have := h.hW; omega) (by have := h.hH; omega) (by omega) (by have h1 := h.hbd; have h2 := Nat.le_mul_of_pos_right (W * H) (show 0 < D by omega); omega) (lyL_length h.hN hz)
theorem ly_fin (h : NmF k W H D vs) (hx : x < W) (hy : y < H) (hz : z < D) : fin3 (place3 (plN k 0 0 z) 1056964608 (FloatKind.f32.nearest (x : Int)) (FloatKind.f32.nearest (y : Int)) (FloatKind.f32.nearest ((0 : Nat) : Int))) = true := by
  have hz4 : z < 4 := by have := h.hD; omega
  have hx4 : x < 4 := by have := h.hW; omega
  have hy4 : y < 4 := by have := h.hH; omega
  rw [ly_f h.hk]
  show fin3 (pcw (hqw k) 1056964608 x, pcw 0 1056964608 y, pcw (pcw 0 1056964608 z) 1056964608 0) = true
  have h4 := tP4 ⟨z, hz4⟩ ⟨0, by decide⟩
  have hy' := (pcf (k := 4) (by omega) hy4).2.1
  rw [tP2] at hy'
  unfold fin3
  simp only
  rw [(pcf h.hk hx4).2.1, hy', h4]; rfl
/-- Half of it. -/
theorem hf_st : fop .mul .f32 1073741824 1056964608 = 1065353216 ∧ above 1065353216 = true := by
  have := tS1
  simp only [Bool.and_eq_true, beq_iff_eq] at this
  exact this.1
theorem hf_sz (h : NmF k W H D vs) : (1 ≤ (W + 1) / 2 ∧ (W + 1) / 2 ≤ 2) ∧ (1 ≤ (H + 1) / 2 ∧ (H + 1) / 2 ≤ 2) ∧ (1 ≤ (D + 1) / 2 ∧ (D + 1) / 2 ≤ 2) ∧ (W + 1) / 2 * ((H + 1) / 2) * ((D + 1) / 2) ≤ 8 := by
  have h1 := h.hW; have h2 := h.hH; have h3 := h.hD
  have a1 : (W + 1) / 2 ≤ 2 := by omega
  have a2 : (H + 1) / 2 ≤ 2 := by omega
  have a3 : (D + 1) / 2 ≤ 2 := by omega
  have m := Nat.mul_le_mul (Nat.mul_le_mul a1 a2) a3
  exact ⟨⟨by omega, a1⟩, ⟨by omega, a2⟩, ⟨by omega, a3⟩, by omega⟩
theorem hf_ok (h : NmF k W H D vs) : meshOk (hqw k, 0, 0) 1065353216 (((W + 1) / 2 : Nat) : Int) (((H + 1) / 2 : Nat) : Int) (((D + 1) / 2 : Nat) : Int) ((W + 1) / 2 * ((H + 1) / 2) * ((D + 1) / 2)) = true := by
  obtain ⟨a1, a2, a3, a4⟩ := hf_sz h
  have hf : fin3 (hqw k, 0, 0) = true := by unfold fin3; rw [hqw_fin ⟨k, h.hk⟩, half_ok.2.1]; rfl
  exact mesh_yes hf hf_st.2 (by omega) (by omega) (by omega) (by omega) rfl
end
end Go.Proofs.Ytfignpiphihgfaa


namespace Go.Proofs.Ytfignpiphihgfaa
end Go.Proofs.Ytfignpiphihgfaa


namespace Go.Proofs.Ytfignpiphihgfaa
end Go.Proofs.Ytfignpiphihgfaa


namespace Go.Proofs.Ytfignpiphihgfaa
open Go.RowKit

end Go.Proofs.Ytfignpiphihgfaa


namespace Go.Proofs.Ytfignpiphihgfaa
open Go.RowKit

theorem Hp.nil {w0 w : World} {O : List Ent} (h : Hp w0 O w) (t : TypeId) : Hp w0 (⟨none, [], 0, t⟩ :: O) w :=
  h.new (Below.refl _ _) (.inl ⟨rfl, rfl⟩)

/-! ### limits -/
section
variable {xss : List (List Nat)} {ws gs x : List Nat} {most unit : Nat} {rn : Int}
end
/-! ### steps that improve -/
section
variable {xss : List (List Nat)} {ws gs x : List Nat} {most unit : Nat} {rn : Int}
end
end Go.Proofs.Ytfignpiphihgfaa


namespace Go.Proofs.Ytfignpiphihgfaa
open Go.RowKit

/-! ### lists one behind the other -/
section
variable {P : Program} {w0 : World} {O : List Ent} {E : Env} {o : Oper}
/-- append to a list that is empty -/
theorem yc_append0 {s x : Operand} {t e : TypeId} {zero : List Value} {bytes : Nat} {a b : Option Addr} {c m2 c2 cap : Nat} {news : List Value} {O' : Option Addr × Nat → List Ent} (z : Nat) (hz : zero.length = z) (ho : o.op = .call ⟨.builtin .append, #[s, x], #[t, t]⟩) (ht : P.underlying t = some (.slice e)) (hE' : Elt P e zero bytes)
    (hs : E.opd s = some (.slice a 0 c)) (hx : E.opd x = some (.slice b m2 c2)) (hO : UpdF O ⟨a, [], cap, e⟩ (fun p : Option Addr × Nat => ⟨p.1, news, p.2 * z, e⟩) O') (hsee : Sees w0 O b news) (hcap : cap = c * z) (hnews : news.length = m2 * z) (hsn : news.all scal = true)
    (hbd : m2 * bytes ≤ 140737488355328) (hbd' : m2 ≤ 140737488355328) :
    YC P w0 O E o (fun p : Option Addr × Nat => .slice p.1 m2 p.2) O' := by
  have h := yc_appendz (P := P) (w0 := w0) (O := O) (E := E) (o := o) (us := []) (news := news) (m := 0) z hz ho ht hE' hs hx hO hsee hcap (by simp) hnews rfl hsn (by simpa using hbd) (by simpa using hbd')
  simpa only [Nat.zero_add] using h
end

/-! ### sizes -/
/-! ### what is merged -/
section
variable {xss yss : List (List Nat)} {ws gs vs hs : List Nat}
end

/-! ### one row more -/
theorem Rws.one {w : World} {p : Option Addr × Nat} {xs : List Nat} (h : Cl w p.1 (fl xs)) : Rws w (fun _ => p) [xs] := by
  intro i hi
  have : i = 0 := by simpa using hi
  subst this
  exact h
/-! ### a column scaled -/
section
variable {xss : List (List Nat)} {ws gs : List Nat} {j : Int} {by' : Nat}
end
end Go.Proofs.Ytfignpiphihgfaa

