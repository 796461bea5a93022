/- Own texts of this claim, merged: WMeshB, Line, FinA, PackA, PackB, PackC, WPkA, WUnA, Sharp, SharpB, SharpC, Unp, Narrow. -/
import Derived.KernelRfl
import Derived.Test.YtnommdpgmoljcaaKFnExactUnpackMesh2
namespace Go.Proofs.Ytnommdpgmoljcaa
open Go.RowKit
set_option linter.unusedVariables false
set_option linter.unusedSimpArgs false
set_option maxRecDepth 20000

theorem known87_MeshB : Known Try.prog 87 := Known.mk' Try.func87 (by kernel_rfl)
theorem known80_MeshB : Known Try.prog 80 := Known.mk' Try.func80 (by kernel_rfl)
theorem known81_MeshB : Known Try.prog 81 := Known.mk' Try.func81 (by kernel_rfl)
theorem sz27_MeshB : (Try.prog.info? 27).map (·.size) = some 3 := by kernel_rfl
theorem known75_MeshB : Known Try.prog 75 := Known.mk' Try.func75 (by kernel_rfl)
theorem sz23_MeshB : (Try.prog.info? 23).map (·.size) = some 1 := by kernel_rfl
theorem fb23_MeshB : flatB Try.prog 23 = true := by kernel_rfl
theorem known95_MeshB : Known Try.prog 95 := Known.mk' Try.func95 (by kernel_rfl)
theorem sz2_MeshB : (Try.prog.info? 2).map (·.size) = some 1 := by kernel_rfl
theorem fb2_MeshB : flatB Try.prog 2 = true := by kernel_rfl
theorem known43_MeshB : Known Try.prog 43 := Known.mk' Try.func43 (by kernel_rfl)
theorem sz28_MeshB : (Try.prog.info? 28).map (·.size) = some 1 := by kernel_rfl
theorem fb28_MeshB : flatB Try.prog 28 = true := by kernel_rfl
theorem mixed_MeshB : Try.prog.follows .mixedOrders = true := by kernel_rfl
theorem known36_MeshB : Known Try.prog 36 := Known.mk' Try.func36 (by kernel_rfl)
theorem known37_MeshB : Known Try.prog 37 := Known.mk' Try.func37 (by kernel_rfl)
theorem known38_MeshB : Known Try.prog 38 := Known.mk' Try.func38 (by kernel_rfl)
theorem known49_MeshB : Known Try.prog 49 := Known.mk' Try.func49 (by kernel_rfl)
theorem known33_MeshB : Known Try.prog 33 := Known.mk' Try.func33 (by kernel_rfl)
theorem known50_MeshB : Known Try.prog 50 := Known.mk' Try.func50 (by kernel_rfl)
attribute [local irreducible] fop fcmp fconv sqrt32 fneg segF fieldS fieldI List.getD

theorem c_isMS {w : World} {n : Int} : Pure Try.prog 43 [.int .i64 n] w (.bool (decide (1 ≤ n ∧ n ≤ 216))) := by
  refine Pure.enter Try.func43 rfl Try.ntmps43 (Nat.le_of_ble_eq_true rfl) ?_
  refine V.seq ?_
  refine V.region ?_
  refine VL.r (.inl rfl) rfl (by decide) (yr_assign (u := .bool false) rfl rfl) ?_
  refine VL.nil ?_
  refine VE.then_wp ?_
  refine V.seq ?_
  refine V.region ?_
  refine VL.r (.inl rfl) rfl (by decide) (yr_move rfl rfl) ?_
  refine VL.q (.inl rfl) rfl (by decide) (yq_callf rfl known87_MeshB (.cons rfl (.cons rfl (.cons rfl .nil))) (fun w hw => c_within)) ?_
  refine VL.r (.inl rfl) rfl (by decide) (yr_assign rfl rfl) ?_
  refine VL.nil ?_
  refine VE.then_wp ?_
  refine V.ret ?_
  refine ret1 rfl rfl (fun w1 hw => ?_)
  exact ⟨rfl, hw.below⟩

theorem c_l02Size {w : World} (x : Nat) : Pure Try.prog 37 [.float .f32 x] w (.bool (above x)) := by
  refine Pure.enter Try.func37 rfl Try.ntmps37 (Nat.le_of_ble_eq_true rfl) ?_
  refine V.seq ?_
  refine V.region ?_
  refine VL.r (.inl rfl) rfl (by decide) (yr_assign (u := .bool false) rfl rfl) ?_
  refine VL.nil ?_
  refine VE.then_wp ?_
  refine V.seq ?_
  refine V.region ?_
  refine VL.r (.inl rfl) rfl (by decide) (yr_move rfl rfl) ?_
  refine VL.q (.inl rfl) rfl (by decide) (yq_callf rfl known80_MeshB (.cons rfl .nil) (fun w hw => c_l01Finite _)) ?_
  refine VL.r (.inl rfl) rfl (by decide) (yr_move rfl rfl) ?_
  refine VX.split 5 _ rfl (fun h1 => ?_) (fun h1 => ?_)
  · skip
    refine VL.r (.inr ⟨_, _, _, rfl, rfl, rfl⟩) rfl (by decide) (yr_move rfl rfl) ?_
    refine VL.r (.inr ⟨_, _, _, rfl, rfl, rfl⟩) rfl (by decide) (yr_fcmp (b := 0) rfl (.inr (.inr (.inr (.inr (.inl rfl))))) rfl rfl) ?_
    refine VL.r (.inl rfl) rfl (by decide) (yr_pick_t rfl rfl rfl) ?_
    refine VL.r (.inl rfl) rfl (by decide) (yr_assign rfl rfl) ?_
    refine VL.nil ?_
    refine VE.then_wp ?_
    refine V.ret ?_
    refine ret1 rfl rfl (fun w1 hw => ?_)
    exact ⟨by simp only [above, *, Bool.true_and], hw.below⟩
  · skip
    refine VL.no rfl rfl rfl rfl rfl (by decide) ?_
    refine VL.no rfl rfl rfl rfl rfl (by decide) ?_
    refine VL.r (.inl rfl) rfl (by decide) (yr_pick_f (u := .bool false) rfl rfl rfl) ?_
    refine VL.r (.inl rfl) rfl (by decide) (yr_assign rfl rfl) ?_
    refine VL.nil ?_
    refine VE.then_wp ?_
    refine V.ret ?_
    refine ret1 rfl rfl (fun w1 hw => ?_)
    exact ⟨by simp only [above, *, Bool.false_and], hw.below⟩

theorem c_l06Sizes {w : World} {wi hi de : Int} : Pure Try.prog 38 [.int .i64 wi, .int .i64 hi, .int .i64 de] w (.bool (szOk wi hi de)) := by
  refine Pure.enter Try.func38 rfl Try.ntmps38 (Nat.le_of_ble_eq_true rfl) ?_
  refine V.seq ?_
  refine V.region ?_
  refine VL.r (.inl rfl) rfl (by decide) (yr_assign (u := .bool false) rfl rfl) ?_
  refine VL.nil ?_
  refine VE.then_wp ?_
  refine V.seq ?_
  refine V.region ?_
  refine VL.r (.inl rfl) rfl (by decide) (yr_move rfl rfl) ?_
  refine VL.q (.inl rfl) rfl (by decide) (yq_callf rfl known81_MeshB (.cons rfl (.cons rfl (.cons rfl .nil))) (fun w hw => c_l00In)) ?_
  refine VL.r (.inl rfl) rfl (by decide) (yr_move rfl rfl) ?_
  refine VX.split 9 _ rfl (fun h1 => ?_) (fun h1 => ?_)
  · skip
    refine VL.r (.inr ⟨_, _, _, rfl, rfl, rfl⟩) rfl (by decide) (yr_move rfl rfl) ?_
    refine VL.q (.inr ⟨_, _, _, rfl, rfl, rfl⟩) rfl (by decide) (yq_callf rfl known81_MeshB (.cons rfl (.cons rfl (.cons rfl .nil))) (fun w hw => c_l00In)) ?_
    refine VL.r (.inl rfl) rfl (by decide) (yr_pick_t rfl rfl rfl) ?_
    refine VL.r (.inl rfl) rfl (by decide) (yr_move rfl rfl) ?_
    refine VX.split 13 _ rfl (fun h2 => ?_) (fun h2 => ?_)
    · skip
      refine VL.r (.inr ⟨_, _, _, rfl, rfl, rfl⟩) rfl (by decide) (yr_move rfl rfl) ?_
      refine VL.q (.inr ⟨_, _, _, rfl, rfl, rfl⟩) rfl (by decide) (yq_callf rfl known81_MeshB (.cons rfl (.cons rfl (.cons rfl .nil))) (fun w hw => c_l00In)) ?_
      refine VL.r (.inl rfl) rfl (by decide) (yr_pick_t rfl rfl rfl) ?_
      refine VL.r (.inl rfl) rfl (by decide) (yr_move rfl rfl) ?_
      refine VX.split 17 _ rfl (fun h3 => ?_) (fun h3 => ?_)
      · skip
        have hb := mesh_mul (wi := wi) (hi := hi) (de := de) (by assumption) (by assumption) (by assumption)
        refine VL.r (.inr ⟨_, _, _, rfl, rfl, rfl⟩) rfl (by decide) (yr_move rfl rfl) ?_
        refine VL.r (.inr ⟨_, _, _, rfl, rfl, rfl⟩) rfl (by decide) (yr_move rfl rfl) ?_
        refine VL.r (.inr ⟨_, _, _, rfl, rfl, rfl⟩) rfl (by decide) (yr_int rfl rfl rfl (.inr (.inr ⟨rfl, wrap_in (by omega)⟩))) ?_
        refine VL.r (.inr ⟨_, _, _, rfl, rfl, rfl⟩) rfl (by decide) (yr_move rfl rfl) ?_
        refine VL.r (.inr ⟨_, _, _, rfl, rfl, rfl⟩) rfl (by decide) (yr_int rfl rfl rfl (.inr (.inr ⟨rfl, wrap_in (by omega)⟩))) ?_
        refine VL.r (.inr ⟨_, _, _, rfl, rfl, rfl⟩) rfl (by decide) (yr_icmp rfl (.inr (.inr (.inr (.inl rfl)))) rfl rfl) ?_
        refine VL.r (.inl rfl) rfl (by decide) (yr_pick_t rfl rfl rfl) ?_
        refine VL.r (.inl rfl) rfl (by decide) (yr_assign rfl rfl) ?_
        refine VL.nil ?_
        refine VE.then_wp ?_
        refine V.ret ?_
        refine ret1 rfl rfl (fun w1 hw => ?_)
        first
          | exact ⟨congrArg Value.bool (szOk_no1 (by assumption)), hw.below⟩
          | exact ⟨congrArg Value.bool (szOk_no2 (by assumption)), hw.below⟩
          | exact ⟨congrArg Value.bool (szOk_no3 (by assumption)), hw.below⟩
          | exact ⟨congrArg Value.bool (szOk_last (by assumption) (by assumption) (by assumption)), hw.below⟩
      · skip
        refine VL.no rfl rfl rfl rfl rfl (by decide) ?_
        refine VL.no rfl rfl rfl rfl rfl (by decide) ?_
        refine VL.no rfl rfl rfl rfl rfl (by decide) ?_
        refine VL.no rfl rfl rfl rfl rfl (by decide) ?_
        refine VL.no rfl rfl rfl rfl rfl (by decide) ?_
        refine VL.no rfl rfl rfl rfl rfl (by decide) ?_
        refine VL.r (.inl rfl) rfl (by decide) (yr_pick_f (u := .bool false) rfl rfl rfl) ?_
        refine VL.r (.inl rfl) rfl (by decide) (yr_assign rfl rfl) ?_
        refine VL.nil ?_
        refine VE.then_wp ?_
        refine V.ret ?_
        refine ret1 rfl rfl (fun w1 hw => ?_)
        first
          | exact ⟨congrArg Value.bool (szOk_no1 (by assumption)), hw.below⟩
          | exact ⟨congrArg Value.bool (szOk_no2 (by assumption)), hw.below⟩
          | exact ⟨congrArg Value.bool (szOk_no3 (by assumption)), hw.below⟩
          | exact ⟨congrArg Value.bool (szOk_last (by assumption) (by assumption) (by assumption)), hw.below⟩
    · skip
      refine VL.no rfl rfl rfl rfl rfl (by decide) ?_
      refine VL.no rfl rfl rfl rfl rfl (by decide) ?_
      refine VL.r (.inl rfl) rfl (by decide) (yr_pick_f (u := .bool false) rfl rfl rfl) ?_
      refine VL.r (.inl rfl) rfl (by decide) (yr_move rfl rfl) ?_
      refine VL.no rfl rfl rfl rfl rfl (by decide) ?_
      refine VL.no rfl rfl rfl rfl rfl (by decide) ?_
      refine VL.no rfl rfl rfl rfl rfl (by decide) ?_
      refine VL.no rfl rfl rfl rfl rfl (by decide) ?_
      refine VL.no rfl rfl rfl rfl rfl (by decide) ?_
      refine VL.no rfl rfl rfl rfl rfl (by decide) ?_
      refine VL.r (.inl rfl) rfl (by decide) (yr_pick_f (u := .bool false) rfl rfl rfl) ?_
      refine VL.r (.inl rfl) rfl (by decide) (yr_assign rfl rfl) ?_
      refine VL.nil ?_
      refine VE.then_wp ?_
      refine V.ret ?_
      refine ret1 rfl rfl (fun w1 hw => ?_)
      first
        | exact ⟨congrArg Value.bool (szOk_no1 (by assumption)), hw.below⟩
        | exact ⟨congrArg Value.bool (szOk_no2 (by assumption)), hw.below⟩
        | exact ⟨congrArg Value.bool (szOk_no3 (by assumption)), hw.below⟩
        | exact ⟨congrArg Value.bool (szOk_last (by assumption) (by assumption) (by assumption)), hw.below⟩
  · skip
    refine VL.no rfl rfl rfl rfl rfl (by decide) ?_
    refine VL.no rfl rfl rfl rfl rfl (by decide) ?_
    refine VL.r (.inl rfl) rfl (by decide) (yr_pick_f (u := .bool false) rfl rfl rfl) ?_
    refine VL.r (.inl rfl) rfl (by decide) (yr_move rfl rfl) ?_
    refine VL.no rfl rfl rfl rfl rfl (by decide) ?_
    refine VL.no rfl rfl rfl rfl rfl (by decide) ?_
    refine VL.r (.inl rfl) rfl (by decide) (yr_pick_f (u := .bool false) rfl rfl rfl) ?_
    refine VL.r (.inl rfl) rfl (by decide) (yr_move rfl rfl) ?_
    refine VL.no rfl rfl rfl rfl rfl (by decide) ?_
    refine VL.no rfl rfl rfl rfl rfl (by decide) ?_
    refine VL.no rfl rfl rfl rfl rfl (by decide) ?_
    refine VL.no rfl rfl rfl rfl rfl (by decide) ?_
    refine VL.no rfl rfl rfl rfl rfl (by decide) ?_
    refine VL.no rfl rfl rfl rfl rfl (by decide) ?_
    refine VL.r (.inl rfl) rfl (by decide) (yr_pick_f (u := .bool false) rfl rfl rfl) ?_
    refine VL.r (.inl rfl) rfl (by decide) (yr_assign rfl rfl) ?_
    refine VL.nil ?_
    refine VE.then_wp ?_
    refine V.ret ?_
    refine ret1 rfl rfl (fun w1 hw => ?_)
    first
      | exact ⟨congrArg Value.bool (szOk_no1 (by assumption)), hw.below⟩
      | exact ⟨congrArg Value.bool (szOk_no2 (by assumption)), hw.below⟩
      | exact ⟨congrArg Value.bool (szOk_no3 (by assumption)), hw.below⟩
      | exact ⟨congrArg Value.bool (szOk_last (by assumption) (by assumption) (by assumption)), hw.below⟩

theorem c_implMesh {w : World} {f1 f2 f3 st : Nat} {wi hi de : Int} {a : Option Addr} {m c : Nat} : Pure Try.prog 57 [.agg #[.float .f32 f1, .float .f32 f2, .float .f32 f3, .float .f32 st, .int .i64 wi, .int .i64 hi, .int .i64 de, .slice a m c]] w (.bool (meshOk (f1, f2, f3) st wi hi de m)) := by
  refine Pure.enter Try.func57 rfl Try.ntmps57 (Nat.le_of_ble_eq_true rfl) ?_
  refine V.seq ?_
  refine V.region ?_
  refine VL.new1 (.inl rfl) rfl (by decide) (yn_box rfl rfl (.inr ⟨rfl, rfl⟩)) ?_
  intro b1
  refine VL.r (.inl rfl) rfl (by decide) (yr_assign (u := .bool false) rfl rfl) ?_
  refine VL.nil ?_
  refine VE.then_wp ?_
  refine V.seq ?_
  refine V.region ?_
  refine VL.r (.inl rfl) rfl (by decide) (yr_fieldAddr rfl Try.underlying30 rfl rfl sz27_MeshB (by decide) rfl) ?_
  refine VL.q (.inl rfl) rfl (by decide) (yq_loadS rfl Try.underlying27 sz27_MeshB rfl (by first | exact Sees.root (by assumption) | exact Sees.own (by repeat (first | exact List.mem_cons_self | exact List.mem_append_left _ (by assumption) | apply List.mem_cons_of_mem | apply List.mem_append_right)) | exact Sees.root (hR _ (by omega)) | exact Sees.own (RowsIn.mem (by repeat (first | exact RowsIn.here | exact RowsIn.last | apply RowsIn.there | apply RowsIn.thereS)) _ (by omega)) | exact Sees.own (WRowsIn.mem (by repeat (first | exact WRowsIn.here | exact WRowsIn.last | apply WRowsIn.there | apply WRowsIn.thereS)) _ (by omega))) rfl rfl rfl) ?_
  refine VL.q (.inl rfl) rfl (by decide) (yq_callf rfl known75_MeshB (.cons rfl .nil) (fun w hw => c_fin3)) ?_
  refine VL.r (.inl rfl) rfl (by decide) (yr_move rfl rfl) ?_
  refine VX.split 6 _ rfl (fun h1 => ?_) (fun h1 => ?_)
  · skip
    refine VL.r (.inr ⟨_, _, _, rfl, rfl, rfl⟩) rfl (by decide) (yr_fieldAddr rfl Try.underlying30 rfl rfl sz23_MeshB (by decide) rfl) ?_
    refine VL.q (.inr ⟨_, _, _, rfl, rfl, rfl⟩) rfl (by decide) (yq_load rfl fb23_MeshB rfl (by first | exact Sees.root (by assumption) | exact Sees.own (by repeat (first | exact List.mem_cons_self | exact List.mem_append_left _ (by assumption) | apply List.mem_cons_of_mem | apply List.mem_append_right)) | exact Sees.root (hR _ (by omega)) | exact Sees.own (RowsIn.mem (by repeat (first | exact RowsIn.here | exact RowsIn.last | apply RowsIn.there | apply RowsIn.thereS)) _ (by omega)) | exact Sees.own (WRowsIn.mem (by repeat (first | exact WRowsIn.here | exact WRowsIn.last | apply WRowsIn.there | apply WRowsIn.thereS)) _ (by omega))) rfl) ?_
    refine VL.q (.inr ⟨_, _, _, rfl, rfl, rfl⟩) rfl (by decide) (yq_callf rfl known95_MeshB (.cons rfl .nil) (fun w hw => c_isLength _)) ?_
    refine VL.r (.inl rfl) rfl (by decide) (yr_pick_t rfl rfl rfl) ?_
    refine VL.r (.inl rfl) rfl (by decide) (yr_move rfl rfl) ?_
    refine VX.split 11 _ rfl (fun h2 => ?_) (fun h2 => ?_)
    · skip
      refine VL.r (.inr ⟨_, _, _, rfl, rfl, rfl⟩) rfl (by decide) (yr_fieldAddr rfl Try.underlying30 rfl rfl sz2_MeshB (by decide) rfl) ?_
      refine VL.q (.inr ⟨_, _, _, rfl, rfl, rfl⟩) rfl (by decide) (yq_load rfl fb2_MeshB rfl (by first | exact Sees.root (by assumption) | exact Sees.own (by repeat (first | exact List.mem_cons_self | exact List.mem_append_left _ (by assumption) | apply List.mem_cons_of_mem | apply List.mem_append_right)) | exact Sees.root (hR _ (by omega)) | exact Sees.own (RowsIn.mem (by repeat (first | exact RowsIn.here | exact RowsIn.last | apply RowsIn.there | apply RowsIn.thereS)) _ (by omega)) | exact Sees.own (WRowsIn.mem (by repeat (first | exact WRowsIn.here | exact WRowsIn.last | apply WRowsIn.there | apply WRowsIn.thereS)) _ (by omega))) rfl) ?_
      refine VL.q (.inr ⟨_, _, _, rfl, rfl, rfl⟩) rfl (by decide) (yq_callf rfl known43_MeshB (.cons rfl .nil) (fun w hw => c_isMS)) ?_
      refine VL.r (.inl rfl) rfl (by decide) (yr_pick_t rfl rfl rfl) ?_
      refine VL.r (.inl rfl) rfl (by decide) (yr_move rfl rfl) ?_
      refine VX.split 16 _ rfl (fun h3 => ?_) (fun h3 => ?_)
      · skip
        refine VL.r (.inr ⟨_, _, _, rfl, rfl, rfl⟩) rfl (by decide) (yr_fieldAddr rfl Try.underlying30 rfl rfl sz2_MeshB (by decide) rfl) ?_
        refine VL.q (.inr ⟨_, _, _, rfl, rfl, rfl⟩) rfl (by decide) (yq_load rfl fb2_MeshB rfl (by first | exact Sees.root (by assumption) | exact Sees.own (by repeat (first | exact List.mem_cons_self | exact List.mem_append_left _ (by assumption) | apply List.mem_cons_of_mem | apply List.mem_append_right)) | exact Sees.root (hR _ (by omega)) | exact Sees.own (RowsIn.mem (by repeat (first | exact RowsIn.here | exact RowsIn.last | apply RowsIn.there | apply RowsIn.thereS)) _ (by omega)) | exact Sees.own (WRowsIn.mem (by repeat (first | exact WRowsIn.here | exact WRowsIn.last | apply WRowsIn.there | apply WRowsIn.thereS)) _ (by omega))) rfl) ?_
        refine VL.q (.inr ⟨_, _, _, rfl, rfl, rfl⟩) rfl (by decide) (yq_callf rfl known43_MeshB (.cons rfl .nil) (fun w hw => c_isMS)) ?_
        refine VL.r (.inl rfl) rfl (by decide) (yr_pick_t rfl rfl rfl) ?_
        refine VL.r (.inl rfl) rfl (by decide) (yr_move rfl rfl) ?_
        refine VX.split 21 _ rfl (fun h4 => ?_) (fun h4 => ?_)
        · skip
          refine VL.r (.inr ⟨_, _, _, rfl, rfl, rfl⟩) rfl (by decide) (yr_fieldAddr rfl Try.underlying30 rfl rfl sz2_MeshB (by decide) rfl) ?_
          refine VL.q (.inr ⟨_, _, _, rfl, rfl, rfl⟩) rfl (by decide) (yq_load rfl fb2_MeshB rfl (by first | exact Sees.root (by assumption) | exact Sees.own (by repeat (first | exact List.mem_cons_self | exact List.mem_append_left _ (by assumption) | apply List.mem_cons_of_mem | apply List.mem_append_right)) | exact Sees.root (hR _ (by omega)) | exact Sees.own (RowsIn.mem (by repeat (first | exact RowsIn.here | exact RowsIn.last | apply RowsIn.there | apply RowsIn.thereS)) _ (by omega)) | exact Sees.own (WRowsIn.mem (by repeat (first | exact WRowsIn.here | exact WRowsIn.last | apply WRowsIn.there | apply WRowsIn.thereS)) _ (by omega))) rfl) ?_
          refine VL.q (.inr ⟨_, _, _, rfl, rfl, rfl⟩) rfl (by decide) (yq_callf rfl known43_MeshB (.cons rfl .nil) (fun w hw => c_isMS)) ?_
          refine VL.r (.inl rfl) rfl (by decide) (yr_pick_t rfl rfl rfl) ?_
          refine VL.r (.inl rfl) rfl (by decide) (yr_move rfl rfl) ?_
          refine VX.split 26 _ rfl (fun h5 => ?_) (fun h5 => ?_)
          · skip
            have hb := mesh_mul (wi := wi) (hi := hi) (de := de) (by assumption) (by assumption) (by assumption)
            refine VL.r (.inr ⟨_, _, _, rfl, rfl, rfl⟩) rfl (by decide) (yr_fieldAddr rfl Try.underlying30 rfl rfl sz2_MeshB (by decide) rfl) ?_
            refine VL.q (.inr ⟨_, _, _, rfl, rfl, rfl⟩) rfl (by decide) (yq_load rfl fb2_MeshB rfl (by first | exact Sees.root (by assumption) | exact Sees.own (by repeat (first | exact List.mem_cons_self | exact List.mem_append_left _ (by assumption) | apply List.mem_cons_of_mem | apply List.mem_append_right)) | exact Sees.root (hR _ (by omega)) | exact Sees.own (RowsIn.mem (by repeat (first | exact RowsIn.here | exact RowsIn.last | apply RowsIn.there | apply RowsIn.thereS)) _ (by omega)) | exact Sees.own (WRowsIn.mem (by repeat (first | exact WRowsIn.here | exact WRowsIn.last | apply WRowsIn.there | apply WRowsIn.thereS)) _ (by omega))) rfl) ?_
            refine VL.r (.inr ⟨_, _, _, rfl, rfl, rfl⟩) rfl (by decide) (yr_fieldAddr rfl Try.underlying30 rfl rfl sz2_MeshB (by decide) rfl) ?_
            refine VL.q (.inr ⟨_, _, _, rfl, rfl, rfl⟩) rfl (by decide) (yq_load rfl fb2_MeshB rfl (by first | exact Sees.root (by assumption) | exact Sees.own (by repeat (first | exact List.mem_cons_self | exact List.mem_append_left _ (by assumption) | apply List.mem_cons_of_mem | apply List.mem_append_right)) | exact Sees.root (hR _ (by omega)) | exact Sees.own (RowsIn.mem (by repeat (first | exact RowsIn.here | exact RowsIn.last | apply RowsIn.there | apply RowsIn.thereS)) _ (by omega)) | exact Sees.own (WRowsIn.mem (by repeat (first | exact WRowsIn.here | exact WRowsIn.last | apply WRowsIn.there | apply WRowsIn.thereS)) _ (by omega))) rfl) ?_
            refine VL.r (.inr ⟨_, _, _, rfl, rfl, rfl⟩) rfl (by decide) (yr_int rfl rfl rfl (.inr (.inr ⟨rfl, wrap_in (by omega)⟩))) ?_
            refine VL.r (.inr ⟨_, _, _, rfl, rfl, rfl⟩) rfl (by decide) (yr_fieldAddr rfl Try.underlying30 rfl rfl sz2_MeshB (by decide) rfl) ?_
            refine VL.q (.inr ⟨_, _, _, rfl, rfl, rfl⟩) rfl (by decide) (yq_load rfl fb2_MeshB rfl (by first | exact Sees.root (by assumption) | exact Sees.own (by repeat (first | exact List.mem_cons_self | exact List.mem_append_left _ (by assumption) | apply List.mem_cons_of_mem | apply List.mem_append_right)) | exact Sees.root (hR _ (by omega)) | exact Sees.own (RowsIn.mem (by repeat (first | exact RowsIn.here | exact RowsIn.last | apply RowsIn.there | apply RowsIn.thereS)) _ (by omega)) | exact Sees.own (WRowsIn.mem (by repeat (first | exact WRowsIn.here | exact WRowsIn.last | apply WRowsIn.there | apply WRowsIn.thereS)) _ (by omega))) rfl) ?_
            refine VL.r (.inr ⟨_, _, _, rfl, rfl, rfl⟩) rfl (by decide) (yr_int rfl rfl rfl (.inr (.inr ⟨rfl, wrap_in (by omega)⟩))) ?_
            refine VL.r (.inr ⟨_, _, _, rfl, rfl, rfl⟩) rfl (by decide) (yr_icmp rfl (.inr (.inr (.inr (.inl rfl)))) rfl rfl) ?_
            refine VL.r (.inl rfl) rfl (by decide) (yr_pick_t rfl rfl rfl) ?_
            refine VL.r (.inl rfl) rfl (by decide) (yr_move rfl rfl) ?_
            refine VX.split 37 _ rfl (fun h6 => ?_) (fun h6 => ?_)
            · skip
              replace h6 := ic_leq h6
              refine VL.r (.inr ⟨_, _, _, rfl, rfl, rfl⟩) rfl (by decide) (yr_fieldAddr rfl Try.underlying30 rfl rfl sz28_MeshB (by decide) rfl) ?_
              refine VL.q (.inr ⟨_, _, _, rfl, rfl, rfl⟩) rfl (by decide) (yq_load rfl fb28_MeshB rfl (by first | exact Sees.root (by assumption) | exact Sees.own (by repeat (first | exact List.mem_cons_self | exact List.mem_append_left _ (by assumption) | apply List.mem_cons_of_mem | apply List.mem_append_right)) | exact Sees.root (hR _ (by omega)) | exact Sees.own (RowsIn.mem (by repeat (first | exact RowsIn.here | exact RowsIn.last | apply RowsIn.there | apply RowsIn.thereS)) _ (by omega)) | exact Sees.own (WRowsIn.mem (by repeat (first | exact WRowsIn.here | exact WRowsIn.last | apply WRowsIn.there | apply WRowsIn.thereS)) _ (by omega))) rfl) ?_
              refine VL.r (.inr ⟨_, _, _, rfl, rfl, rfl⟩) rfl (by decide) (yr_len rfl Try.underlying28 rfl) ?_
              refine VL.r (.inr ⟨_, _, _, rfl, rfl, rfl⟩) rfl (by decide) (yr_fieldAddr rfl Try.underlying30 rfl rfl sz2_MeshB (by decide) rfl) ?_
              refine VL.q (.inr ⟨_, _, _, rfl, rfl, rfl⟩) rfl (by decide) (yq_load rfl fb2_MeshB rfl (by first | exact Sees.root (by assumption) | exact Sees.own (by repeat (first | exact List.mem_cons_self | exact List.mem_append_left _ (by assumption) | apply List.mem_cons_of_mem | apply List.mem_append_right)) | exact Sees.root (hR _ (by omega)) | exact Sees.own (RowsIn.mem (by repeat (first | exact RowsIn.here | exact RowsIn.last | apply RowsIn.there | apply RowsIn.thereS)) _ (by omega)) | exact Sees.own (WRowsIn.mem (by repeat (first | exact WRowsIn.here | exact WRowsIn.last | apply WRowsIn.there | apply WRowsIn.thereS)) _ (by omega))) rfl) ?_
              refine VL.r (.inr ⟨_, _, _, rfl, rfl, rfl⟩) rfl (by decide) (yr_fieldAddr rfl Try.underlying30 rfl rfl sz2_MeshB (by decide) rfl) ?_
              refine VL.q (.inr ⟨_, _, _, rfl, rfl, rfl⟩) rfl (by decide) (yq_load rfl fb2_MeshB rfl (by first | exact Sees.root (by assumption) | exact Sees.own (by repeat (first | exact List.mem_cons_self | exact List.mem_append_left _ (by assumption) | apply List.mem_cons_of_mem | apply List.mem_append_right)) | exact Sees.root (hR _ (by omega)) | exact Sees.own (RowsIn.mem (by repeat (first | exact RowsIn.here | exact RowsIn.last | apply RowsIn.there | apply RowsIn.thereS)) _ (by omega)) | exact Sees.own (WRowsIn.mem (by repeat (first | exact WRowsIn.here | exact WRowsIn.last | apply WRowsIn.there | apply WRowsIn.thereS)) _ (by omega))) rfl) ?_
              refine VL.r (.inr ⟨_, _, _, rfl, rfl, rfl⟩) rfl (by decide) (yr_int rfl rfl rfl (.inr (.inr ⟨rfl, wrap_in (by omega)⟩))) ?_
              refine VL.r (.inr ⟨_, _, _, rfl, rfl, rfl⟩) rfl (by decide) (yr_fieldAddr rfl Try.underlying30 rfl rfl sz2_MeshB (by decide) rfl) ?_
              refine VL.q (.inr ⟨_, _, _, rfl, rfl, rfl⟩) rfl (by decide) (yq_load rfl fb2_MeshB rfl (by first | exact Sees.root (by assumption) | exact Sees.own (by repeat (first | exact List.mem_cons_self | exact List.mem_append_left _ (by assumption) | apply List.mem_cons_of_mem | apply List.mem_append_right)) | exact Sees.root (hR _ (by omega)) | exact Sees.own (RowsIn.mem (by repeat (first | exact RowsIn.here | exact RowsIn.last | apply RowsIn.there | apply RowsIn.thereS)) _ (by omega)) | exact Sees.own (WRowsIn.mem (by repeat (first | exact WRowsIn.here | exact WRowsIn.last | apply WRowsIn.there | apply WRowsIn.thereS)) _ (by omega))) rfl) ?_
              refine VL.r (.inr ⟨_, _, _, rfl, rfl, rfl⟩) rfl (by decide) (yr_int rfl rfl rfl (.inr (.inr ⟨rfl, wrap_in (by omega)⟩))) ?_
              refine VL.r (.inr ⟨_, _, _, rfl, rfl, rfl⟩) rfl (by decide) (yr_icmp rfl (.inl rfl) rfl rfl) ?_
              refine VL.r (.inl rfl) rfl (by decide) (yr_pick_t rfl rfl rfl) ?_
              refine VL.r (.inl rfl) rfl (by decide) (yr_assign rfl rfl) ?_
              refine VL.nil ?_
              refine VE.then_wp ?_
              refine V.ret ?_
              refine ret1 rfl rfl (fun w1 hw => ?_)
              first
                | exact ⟨congrArg Value.bool (meshOk_no1 (f := (f1, f2, f3)) (by assumption)), hw.below⟩
                | exact ⟨congrArg Value.bool (meshOk_no2 (by assumption)), hw.below⟩
                | exact ⟨congrArg Value.bool (meshOk_no3 (by assumption)), hw.below⟩
                | exact ⟨congrArg Value.bool (meshOk_no3 (szOk_no1 (by assumption)).symm), hw.below⟩
                | exact ⟨congrArg Value.bool (meshOk_no3 (szOk_no2 (by assumption)).symm), hw.below⟩
                | exact ⟨congrArg Value.bool (meshOk_no3 (szOk_no3 (by assumption)).symm), hw.below⟩
                | exact ⟨congrArg Value.bool (meshOk_no3 (szOk_no4 (by omega))), hw.below⟩
                | exact ⟨congrArg Value.bool (meshOk_last (f := (f1, f2, f3)) (by assumption) (by assumption) (by assumption)), hw.below⟩
                | exact ⟨congrArg Value.bool (meshOk_last (f := (f1, f2, f3)) (by assumption) (by assumption) (szOk_yes (by assumption) (by assumption) (by assumption) (by omega))), hw.below⟩
            · skip
              replace h6 := ic_leq' h6
              refine VL.no rfl rfl rfl rfl rfl (by decide) ?_
              refine VL.no rfl rfl rfl rfl rfl (by decide) ?_
              refine VL.no rfl rfl rfl rfl rfl (by decide) ?_
              refine VL.no rfl rfl rfl rfl rfl (by decide) ?_
              refine VL.no rfl rfl rfl rfl rfl (by decide) ?_
              refine VL.no rfl rfl rfl rfl rfl (by decide) ?_
              refine VL.no rfl rfl rfl rfl rfl (by decide) ?_
              refine VL.no rfl rfl rfl rfl rfl (by decide) ?_
              refine VL.no rfl rfl rfl rfl rfl (by decide) ?_
              refine VL.no rfl rfl rfl rfl rfl (by decide) ?_
              refine VL.no rfl rfl rfl rfl rfl (by decide) ?_
              refine VL.no rfl rfl rfl rfl rfl (by decide) ?_
              refine VL.r (.inl rfl) rfl (by decide) (yr_pick_f (u := .bool false) rfl rfl rfl) ?_
              refine VL.r (.inl rfl) rfl (by decide) (yr_assign rfl rfl) ?_
              refine VL.nil ?_
              refine VE.then_wp ?_
              refine V.ret ?_
              refine ret1 rfl rfl (fun w1 hw => ?_)
              first
                | exact ⟨congrArg Value.bool (meshOk_no1 (f := (f1, f2, f3)) (by assumption)), hw.below⟩
                | exact ⟨congrArg Value.bool (meshOk_no2 (by assumption)), hw.below⟩
                | exact ⟨congrArg Value.bool (meshOk_no3 (by assumption)), hw.below⟩
                | exact ⟨congrArg Value.bool (meshOk_no3 (szOk_no1 (by assumption)).symm), hw.below⟩
                | exact ⟨congrArg Value.bool (meshOk_no3 (szOk_no2 (by assumption)).symm), hw.below⟩
                | exact ⟨congrArg Value.bool (meshOk_no3 (szOk_no3 (by assumption)).symm), hw.below⟩
                | exact ⟨congrArg Value.bool (meshOk_no3 (szOk_no4 (by omega))), hw.below⟩
                | exact ⟨congrArg Value.bool (meshOk_last (f := (f1, f2, f3)) (by assumption) (by assumption) (by assumption)), hw.below⟩
                | exact ⟨congrArg Value.bool (meshOk_last (f := (f1, f2, f3)) (by assumption) (by assumption) (szOk_yes (by assumption) (by assumption) (by assumption) (by omega))), hw.below⟩
          · skip
            refine VL.no rfl rfl rfl rfl rfl (by decide) ?_
            refine VL.no rfl rfl rfl rfl rfl (by decide) ?_
            refine VL.no rfl rfl rfl rfl rfl (by decide) ?_
            refine VL.no rfl rfl rfl rfl rfl (by decide) ?_
            refine VL.no rfl rfl rfl rfl rfl (by decide) ?_
            refine VL.no rfl rfl rfl rfl rfl (by decide) ?_
            refine VL.no rfl rfl rfl rfl rfl (by decide) ?_
            refine VL.no rfl rfl rfl rfl rfl (by decide) ?_
            refine VL.no rfl rfl rfl rfl rfl (by decide) ?_
            refine VL.r (.inl rfl) rfl (by decide) (yr_pick_f (u := .bool false) rfl rfl rfl) ?_
            refine VL.r (.inl rfl) rfl (by decide) (yr_move rfl rfl) ?_
            refine VL.no rfl rfl rfl rfl rfl (by decide) ?_
            refine VL.no rfl rfl rfl rfl rfl (by decide) ?_
            refine VL.no rfl rfl rfl rfl rfl (by decide) ?_
            refine VL.no rfl rfl rfl rfl rfl (by decide) ?_
            refine VL.no rfl rfl rfl rfl rfl (by decide) ?_
            refine VL.no rfl rfl rfl rfl rfl (by decide) ?_
            refine VL.no rfl rfl rfl rfl rfl (by decide) ?_
            refine VL.no rfl rfl rfl rfl rfl (by decide) ?_
            refine VL.no rfl rfl rfl rfl rfl (by decide) ?_
            refine VL.no rfl rfl rfl rfl rfl (by decide) ?_
            refine VL.no rfl rfl rfl rfl rfl (by decide) ?_
            refine VL.no rfl rfl rfl rfl rfl (by decide) ?_
            refine VL.r (.inl rfl) rfl (by decide) (yr_pick_f (u := .bool false) rfl rfl rfl) ?_
            refine VL.r (.inl rfl) rfl (by decide) (yr_assign rfl rfl) ?_
            refine VL.nil ?_
            refine VE.then_wp ?_
            refine V.ret ?_
            refine ret1 rfl rfl (fun w1 hw => ?_)
            first
              | exact ⟨congrArg Value.bool (meshOk_no1 (f := (f1, f2, f3)) (by assumption)), hw.below⟩
              | exact ⟨congrArg Value.bool (meshOk_no2 (by assumption)), hw.below⟩
              | exact ⟨congrArg Value.bool (meshOk_no3 (by assumption)), hw.below⟩
              | exact ⟨congrArg Value.bool (meshOk_no3 (szOk_no1 (by assumption)).symm), hw.below⟩
              | exact ⟨congrArg Value.bool (meshOk_no3 (szOk_no2 (by assumption)).symm), hw.below⟩
              | exact ⟨congrArg Value.bool (meshOk_no3 (szOk_no3 (by assumption)).symm), hw.below⟩
              | exact ⟨congrArg Value.bool (meshOk_no3 (szOk_no4 (by omega))), hw.below⟩
              | exact ⟨congrArg Value.bool (meshOk_last (f := (f1, f2, f3)) (by assumption) (by assumption) (by assumption)), hw.below⟩
              | exact ⟨congrArg Value.bool (meshOk_last (f := (f1, f2, f3)) (by assumption) (by assumption) (szOk_yes (by assumption) (by assumption) (by assumption) (by omega))), hw.below⟩
        · skip
          refine VL.no rfl rfl rfl rfl rfl (by decide) ?_
          refine VL.no rfl rfl rfl rfl rfl (by decide) ?_
          refine VL.no rfl rfl rfl rfl rfl (by decide) ?_
          refine VL.r (.inl rfl) rfl (by decide) (yr_pick_f (u := .bool false) rfl rfl rfl) ?_
          refine VL.r (.inl rfl) rfl (by decide) (yr_move rfl rfl) ?_
          refine VL.no rfl rfl rfl rfl rfl (by decide) ?_
          refine VL.no rfl rfl rfl rfl rfl (by decide) ?_
          refine VL.no rfl rfl rfl rfl rfl (by decide) ?_
          refine VL.no rfl rfl rfl rfl rfl (by decide) ?_
          refine VL.no rfl rfl rfl rfl rfl (by decide) ?_
          refine VL.no rfl rfl rfl rfl rfl (by decide) ?_
          refine VL.no rfl rfl rfl rfl rfl (by decide) ?_
          refine VL.no rfl rfl rfl rfl rfl (by decide) ?_
          refine VL.no rfl rfl rfl rfl rfl (by decide) ?_
          refine VL.r (.inl rfl) rfl (by decide) (yr_pick_f (u := .bool false) rfl rfl rfl) ?_
          refine VL.r (.inl rfl) rfl (by decide) (yr_move rfl rfl) ?_
          refine VL.no rfl rfl rfl rfl rfl (by decide) ?_
          refine VL.no rfl rfl rfl rfl rfl (by decide) ?_
          refine VL.no rfl rfl rfl rfl rfl (by decide) ?_
          refine VL.no rfl rfl rfl rfl rfl (by decide) ?_
          refine VL.no rfl rfl rfl rfl rfl (by decide) ?_
          refine VL.no rfl rfl rfl rfl rfl (by decide) ?_
          refine VL.no rfl rfl rfl rfl rfl (by decide) ?_
          refine VL.no rfl rfl rfl rfl rfl (by decide) ?_
          refine VL.no rfl rfl rfl rfl rfl (by decide) ?_
          refine VL.no rfl rfl rfl rfl rfl (by decide) ?_
          refine VL.no rfl rfl rfl rfl rfl (by decide) ?_
          refine VL.no rfl rfl rfl rfl rfl (by decide) ?_
          refine VL.r (.inl rfl) rfl (by decide) (yr_pick_f (u := .bool false) rfl rfl rfl) ?_
          refine VL.r (.inl rfl) rfl (by decide) (yr_assign rfl rfl) ?_
          refine VL.nil ?_
          refine VE.then_wp ?_
          refine V.ret ?_
          refine ret1 rfl rfl (fun w1 hw => ?_)
          first
            | exact ⟨congrArg Value.bool (meshOk_no1 (f := (f1, f2, f3)) (by assumption)), hw.below⟩
            | exact ⟨congrArg Value.bool (meshOk_no2 (by assumption)), hw.below⟩
            | exact ⟨congrArg Value.bool (meshOk_no3 (by assumption)), hw.below⟩
            | exact ⟨congrArg Value.bool (meshOk_no3 (szOk_no1 (by assumption)).symm), hw.below⟩
            | exact ⟨congrArg Value.bool (meshOk_no3 (szOk_no2 (by assumption)).symm), hw.below⟩
            | exact ⟨congrArg Value.bool (meshOk_no3 (szOk_no3 (by assumption)).symm), hw.below⟩
            | exact ⟨congrArg Value.bool (meshOk_no3 (szOk_no4 (by omega))), hw.below⟩
            | exact ⟨congrArg Value.bool (meshOk_last (f := (f1, f2, f3)) (by assumption) (by assumption) (by assumption)), hw.below⟩
            | exact ⟨congrArg Value.bool (meshOk_last (f := (f1, f2, f3)) (by assumption) (by assumption) (szOk_yes (by assumption) (by assumption) (by assumption) (by omega))), hw.below⟩
      · skip
        refine VL.no rfl rfl rfl rfl rfl (by decide) ?_
        refine VL.no rfl rfl rfl rfl rfl (by decide) ?_
        refine VL.no rfl rfl rfl rfl rfl (by decide) ?_
        refine VL.r (.inl rfl) rfl (by decide) (yr_pick_f (u := .bool false) rfl rfl rfl) ?_
        refine VL.r (.inl rfl) rfl (by decide) (yr_move rfl rfl) ?_
        refine VL.no rfl rfl rfl rfl rfl (by decide) ?_
        refine VL.no rfl rfl rfl rfl rfl (by decide) ?_
        refine VL.no rfl rfl rfl rfl rfl (by decide) ?_
        refine VL.r (.inl rfl) rfl (by decide) (yr_pick_f (u := .bool false) rfl rfl rfl) ?_
        refine VL.r (.inl rfl) rfl (by decide) (yr_move rfl rfl) ?_
        refine VL.no rfl rfl rfl rfl rfl (by decide) ?_
        refine VL.no rfl rfl rfl rfl rfl (by decide) ?_
        refine VL.no rfl rfl rfl rfl rfl (by decide) ?_
        refine VL.no rfl rfl rfl rfl rfl (by decide) ?_
        refine VL.no rfl rfl rfl rfl rfl (by decide) ?_
        refine VL.no rfl rfl rfl rfl rfl (by decide) ?_
        refine VL.no rfl rfl rfl rfl rfl (by decide) ?_
        refine VL.no rfl rfl rfl rfl rfl (by decide) ?_
        refine VL.no rfl rfl rfl rfl rfl (by decide) ?_
        refine VL.r (.inl rfl) rfl (by decide) (yr_pick_f (u := .bool false) rfl rfl rfl) ?_
        refine VL.r (.inl rfl) rfl (by decide) (yr_move rfl rfl) ?_
        refine VL.no rfl rfl rfl rfl rfl (by decide) ?_
        refine VL.no rfl rfl rfl rfl rfl (by decide) ?_
        refine VL.no rfl rfl rfl rfl rfl (by decide) ?_
        refine VL.no rfl rfl rfl rfl rfl (by decide) ?_
        refine VL.no rfl rfl rfl rfl rfl (by decide) ?_
        refine VL.no rfl rfl rfl rfl rfl (by decide) ?_
        refine VL.no rfl rfl rfl rfl rfl (by decide) ?_
        refine VL.no rfl rfl rfl rfl rfl (by decide) ?_
        refine VL.no rfl rfl rfl rfl rfl (by decide) ?_
        refine VL.no rfl rfl rfl rfl rfl (by decide) ?_
        refine VL.no rfl rfl rfl rfl rfl (by decide) ?_
        refine VL.no rfl rfl rfl rfl rfl (by decide) ?_
        refine VL.r (.inl rfl) rfl (by decide) (yr_pick_f (u := .bool false) rfl rfl rfl) ?_
        refine VL.r (.inl rfl) rfl (by decide) (yr_assign rfl rfl) ?_
        refine VL.nil ?_
        refine VE.then_wp ?_
        refine V.ret ?_
        refine ret1 rfl rfl (fun w1 hw => ?_)
        first
          | exact ⟨congrArg Value.bool (meshOk_no1 (f := (f1, f2, f3)) (by assumption)), hw.below⟩
          | exact ⟨congrArg Value.bool (meshOk_no2 (by assumption)), hw.below⟩
          | exact ⟨congrArg Value.bool (meshOk_no3 (by assumption)), hw.below⟩
          | exact ⟨congrArg Value.bool (meshOk_no3 (szOk_no1 (by assumption)).symm), hw.below⟩
          | exact ⟨congrArg Value.bool (meshOk_no3 (szOk_no2 (by assumption)).symm), hw.below⟩
          | exact ⟨congrArg Value.bool (meshOk_no3 (szOk_no3 (by assumption)).symm), hw.below⟩
          | exact ⟨congrArg Value.bool (meshOk_no3 (szOk_no4 (by omega))), hw.below⟩
          | exact ⟨congrArg Value.bool (meshOk_last (f := (f1, f2, f3)) (by assumption) (by assumption) (by assumption)), hw.below⟩
          | exact ⟨congrArg Value.bool (meshOk_last (f := (f1, f2, f3)) (by assumption) (by assumption) (szOk_yes (by assumption) (by assumption) (by assumption) (by omega))), hw.below⟩
    · skip
      refine VL.no rfl rfl rfl rfl rfl (by decide) ?_
      refine VL.no rfl rfl rfl rfl rfl (by decide) ?_
      refine VL.no rfl rfl rfl rfl rfl (by decide) ?_
      refine VL.r (.inl rfl) rfl (by decide) (yr_pick_f (u := .bool false) rfl rfl rfl) ?_
      refine VL.r (.inl rfl) rfl (by decide) (yr_move rfl rfl) ?_
      refine VL.no rfl rfl rfl rfl rfl (by decide) ?_
      refine VL.no rfl rfl rfl rfl rfl (by decide) ?_
      refine VL.no rfl rfl rfl rfl rfl (by decide) ?_
      refine VL.r (.inl rfl) rfl (by decide) (yr_pick_f (u := .bool false) rfl rfl rfl) ?_
      refine VL.r (.inl rfl) rfl (by decide) (yr_move rfl rfl) ?_
      refine VL.no rfl rfl rfl rfl rfl (by decide) ?_
      refine VL.no rfl rfl rfl rfl rfl (by decide) ?_
      refine VL.no rfl rfl rfl rfl rfl (by decide) ?_
      refine VL.r (.inl rfl) rfl (by decide) (yr_pick_f (u := .bool false) rfl rfl rfl) ?_
      refine VL.r (.inl rfl) rfl (by decide) (yr_move rfl rfl) ?_
      refine VL.no rfl rfl rfl rfl rfl (by decide) ?_
      refine VL.no rfl rfl rfl rfl rfl (by decide) ?_
      refine VL.no rfl rfl rfl rfl rfl (by decide) ?_
      refine VL.no rfl rfl rfl rfl rfl (by decide) ?_
      refine VL.no rfl rfl rfl rfl rfl (by decide) ?_
      refine VL.no rfl rfl rfl rfl rfl (by decide) ?_
      refine VL.no rfl rfl rfl rfl rfl (by decide) ?_
      refine VL.no rfl rfl rfl rfl rfl (by decide) ?_
      refine VL.no rfl rfl rfl rfl rfl (by decide) ?_
      refine VL.r (.inl rfl) rfl (by decide) (yr_pick_f (u := .bool false) rfl rfl rfl) ?_
      refine VL.r (.inl rfl) rfl (by decide) (yr_move rfl rfl) ?_
      refine VL.no rfl rfl rfl rfl rfl (by decide) ?_
      refine VL.no rfl rfl rfl rfl rfl (by decide) ?_
      refine VL.no rfl rfl rfl rfl rfl (by decide) ?_
      refine VL.no rfl rfl rfl rfl rfl (by decide) ?_
      refine VL.no rfl rfl rfl rfl rfl (by decide) ?_
      refine VL.no rfl rfl rfl rfl rfl (by decide) ?_
      refine VL.no rfl rfl rfl rfl rfl (by decide) ?_
      refine VL.no rfl rfl rfl rfl rfl (by decide) ?_
      refine VL.no rfl rfl rfl rfl rfl (by decide) ?_
      refine VL.no rfl rfl rfl rfl rfl (by decide) ?_
      refine VL.no rfl rfl rfl rfl rfl (by decide) ?_
      refine VL.no rfl rfl rfl rfl rfl (by decide) ?_
      refine VL.r (.inl rfl) rfl (by decide) (yr_pick_f (u := .bool false) rfl rfl rfl) ?_
      refine VL.r (.inl rfl) rfl (by decide) (yr_assign rfl rfl) ?_
      refine VL.nil ?_
      refine VE.then_wp ?_
      refine V.ret ?_
      refine ret1 rfl rfl (fun w1 hw => ?_)
      first
        | exact ⟨congrArg Value.bool (meshOk_no1 (f := (f1, f2, f3)) (by assumption)), hw.below⟩
        | exact ⟨congrArg Value.bool (meshOk_no2 (by assumption)), hw.below⟩
        | exact ⟨congrArg Value.bool (meshOk_no3 (by assumption)), hw.below⟩
        | exact ⟨congrArg Value.bool (meshOk_no3 (szOk_no1 (by assumption)).symm), hw.below⟩
        | exact ⟨congrArg Value.bool (meshOk_no3 (szOk_no2 (by assumption)).symm), hw.below⟩
        | exact ⟨congrArg Value.bool (meshOk_no3 (szOk_no3 (by assumption)).symm), hw.below⟩
        | exact ⟨congrArg Value.bool (meshOk_no3 (szOk_no4 (by omega))), hw.below⟩
        | exact ⟨congrArg Value.bool (meshOk_last (f := (f1, f2, f3)) (by assumption) (by assumption) (by assumption)), hw.below⟩
        | exact ⟨congrArg Value.bool (meshOk_last (f := (f1, f2, f3)) (by assumption) (by assumption) (szOk_yes (by assumption) (by assumption) (by assumption) (by omega))), hw.below⟩
  · skip
    refine VL.no rfl rfl rfl rfl rfl (by decide) ?_
    refine VL.no rfl rfl rfl rfl rfl (by decide) ?_
    refine VL.no rfl rfl rfl rfl rfl (by decide) ?_
    refine VL.r (.inl rfl) rfl (by decide) (yr_pick_f (u := .bool false) rfl rfl rfl) ?_
    refine VL.r (.inl rfl) rfl (by decide) (yr_move rfl rfl) ?_
    refine VL.no rfl rfl rfl rfl rfl (by decide) ?_
    refine VL.no rfl rfl rfl rfl rfl (by decide) ?_
    refine VL.no rfl rfl rfl rfl rfl (by decide) ?_
    refine VL.r (.inl rfl) rfl (by decide) (yr_pick_f (u := .bool false) rfl rfl rfl) ?_
    refine VL.r (.inl rfl) rfl (by decide) (yr_move rfl rfl) ?_
    refine VL.no rfl rfl rfl rfl rfl (by decide) ?_
    refine VL.no rfl rfl rfl rfl rfl (by decide) ?_
    refine VL.no rfl rfl rfl rfl rfl (by decide) ?_
    refine VL.r (.inl rfl) rfl (by decide) (yr_pick_f (u := .bool false) rfl rfl rfl) ?_
    refine VL.r (.inl rfl) rfl (by decide) (yr_move rfl rfl) ?_
    refine VL.no rfl rfl rfl rfl rfl (by decide) ?_
    refine VL.no rfl rfl rfl rfl rfl (by decide) ?_
    refine VL.no rfl rfl rfl rfl rfl (by decide) ?_
    refine VL.r (.inl rfl) rfl (by decide) (yr_pick_f (u := .bool false) rfl rfl rfl) ?_
    refine VL.r (.inl rfl) rfl (by decide) (yr_move rfl rfl) ?_
    refine VL.no rfl rfl rfl rfl rfl (by decide) ?_
    refine VL.no rfl rfl rfl rfl rfl (by decide) ?_
    refine VL.no rfl rfl rfl rfl rfl (by decide) ?_
    refine VL.no rfl rfl rfl rfl rfl (by decide) ?_
    refine VL.no rfl rfl rfl rfl rfl (by decide) ?_
    refine VL.no rfl rfl rfl rfl rfl (by decide) ?_
    refine VL.no rfl rfl rfl rfl rfl (by decide) ?_
    refine VL.no rfl rfl rfl rfl rfl (by decide) ?_
    refine VL.no rfl rfl rfl rfl rfl (by decide) ?_
    refine VL.r (.inl rfl) rfl (by decide) (yr_pick_f (u := .bool false) rfl rfl rfl) ?_
    refine VL.r (.inl rfl) rfl (by decide) (yr_move rfl rfl) ?_
    refine VL.no rfl rfl rfl rfl rfl (by decide) ?_
    refine VL.no rfl rfl rfl rfl rfl (by decide) ?_
    refine VL.no rfl rfl rfl rfl rfl (by decide) ?_
    refine VL.no rfl rfl rfl rfl rfl (by decide) ?_
    refine VL.no rfl rfl rfl rfl rfl (by decide) ?_
    refine VL.no rfl rfl rfl rfl rfl (by decide) ?_
    refine VL.no rfl rfl rfl rfl rfl (by decide) ?_
    refine VL.no rfl rfl rfl rfl rfl (by decide) ?_
    refine VL.no rfl rfl rfl rfl rfl (by decide) ?_
    refine VL.no rfl rfl rfl rfl rfl (by decide) ?_
    refine VL.no rfl rfl rfl rfl rfl (by decide) ?_
    refine VL.no rfl rfl rfl rfl rfl (by decide) ?_
    refine VL.r (.inl rfl) rfl (by decide) (yr_pick_f (u := .bool false) rfl rfl rfl) ?_
    refine VL.r (.inl rfl) rfl (by decide) (yr_assign rfl rfl) ?_
    refine VL.nil ?_
    refine VE.then_wp ?_
    refine V.ret ?_
    refine ret1 rfl rfl (fun w1 hw => ?_)
    first
      | exact ⟨congrArg Value.bool (meshOk_no1 (f := (f1, f2, f3)) (by assumption)), hw.below⟩
      | exact ⟨congrArg Value.bool (meshOk_no2 (by assumption)), hw.below⟩
      | exact ⟨congrArg Value.bool (meshOk_no3 (by assumption)), hw.below⟩
      | exact ⟨congrArg Value.bool (meshOk_no3 (szOk_no1 (by assumption)).symm), hw.below⟩
      | exact ⟨congrArg Value.bool (meshOk_no3 (szOk_no2 (by assumption)).symm), hw.below⟩
      | exact ⟨congrArg Value.bool (meshOk_no3 (szOk_no3 (by assumption)).symm), hw.below⟩
      | exact ⟨congrArg Value.bool (meshOk_no3 (szOk_no4 (by omega))), hw.below⟩
      | exact ⟨congrArg Value.bool (meshOk_last (f := (f1, f2, f3)) (by assumption) (by assumption) (by assumption)), hw.below⟩
      | exact ⟨congrArg Value.bool (meshOk_last (f := (f1, f2, f3)) (by assumption) (by assumption) (szOk_yes (by assumption) (by assumption) (by assumption) (by omega))), hw.below⟩

theorem c_l06Is {w : World} {q : Option Addr} {f1 f2 f3 st : Nat} {wi hi de : Int} {a : Option Addr} {m c : Nat} (hQ : Cl w q [.float .f32 f1, .float .f32 f2, .float .f32 f3, .float .f32 st, .int .i64 wi, .int .i64 hi, .int .i64 de, .slice a m c]) : Pure Try.prog 68 [.pointer (some (adr q 0))] w (.bool (meshOk (f1, f2, f3) st wi hi de m)) := by
  refine Pure.enter Try.func68 rfl Try.ntmps68 (Nat.le_of_ble_eq_true rfl) ?_
  refine V.seq ?_
  refine V.region ?_
  refine VL.r (.inl rfl) rfl (by decide) (yr_assign (u := .bool false) rfl rfl) ?_
  refine VL.nil ?_
  refine VE.then_wp ?_
  refine V.seq ?_
  refine V.draw [(0, 0), (1, 0), (2, 0), (3, 0), (4, 0), (5, 0), (6, 0), (7, 0), (8, 0), (9, 0), (10, 0), (11, 0), (12, 0), (13, 0), (14, 0), (15, 0), (16, 0), (17, 0), (18, 0), (19, 0), (20, 0), (21, 0), (22, 0), (23, 0), (24, 0), (25, 0), (26, 0), (27, 0), (28, 0), (29, 0), (30, 0), (31, 0), (32, 0), (33, 0), (34, 0), (35, 0), (36, 0), (37, 0), (38, 0), (39, 0), (40, 0), (41, 0), (42, 0), (43, 0), (44, 0), (45, 0), (46, 0), (47, 0), (48, 0), (49, 0)] mixed_MeshB (by kernel_rfl) (by intro j o hj; simp at hj) ?_
  refine SW.r rfl (.inl rfl) rfl (by decide) (yr_move rfl rfl) ?_
  refine SW.r rfl (.inl rfl) rfl (by decide) (yr_nilCheck rfl rfl) ?_
  refine SW.r rfl (.inl rfl) rfl (by decide) (yr_fieldAddr rfl Try.underlying30 rfl rfl sz27_MeshB (by decide) rfl) ?_
  refine SW.q rfl (.inl rfl) rfl (by decide) (yq_loadS rfl Try.underlying27 sz27_MeshB rfl (by first | exact Sees.root (by assumption) | exact Sees.own (by repeat (first | exact List.mem_cons_self | exact List.mem_append_left _ (by assumption) | apply List.mem_cons_of_mem | apply List.mem_append_right)) | exact Sees.root (hR _ (by omega)) | exact Sees.own (RowsIn.mem (by repeat (first | exact RowsIn.here | exact RowsIn.last | apply RowsIn.there | apply RowsIn.thereS)) _ (by omega)) | exact Sees.own (WRowsIn.mem (by repeat (first | exact WRowsIn.here | exact WRowsIn.last | apply WRowsIn.there | apply WRowsIn.thereS)) _ (by omega))) rfl rfl rfl) ?_
  refine SW.q rfl (.inl rfl) rfl (by decide) (yq_callf rfl known36_MeshB (.cons rfl .nil) (fun w hw => c_fin3S)) ?_
  refine SW.r rfl (.inl rfl) rfl (by decide) (yr_move rfl rfl) ?_
  refine SW.split lax_ve 8 _ rfl (fun h1 => ?_) (fun h1 => ?_)
  · skip
    refine SW.r rfl (.inr ⟨_, _, _, rfl, rfl, rfl⟩) rfl (by decide) (yr_move rfl rfl) ?_
    refine SW.r rfl (.inr ⟨_, _, _, rfl, rfl, rfl⟩) rfl (by decide) (yr_nilCheck rfl rfl) ?_
    refine SW.r rfl (.inr ⟨_, _, _, rfl, rfl, rfl⟩) rfl (by decide) (yr_fieldAddr rfl Try.underlying30 rfl rfl sz23_MeshB (by decide) rfl) ?_
    refine SW.q rfl (.inr ⟨_, _, _, rfl, rfl, rfl⟩) rfl (by decide) (yq_load rfl fb23_MeshB rfl (by first | exact Sees.root (by assumption) | exact Sees.own (by repeat (first | exact List.mem_cons_self | exact List.mem_append_left _ (by assumption) | apply List.mem_cons_of_mem | apply List.mem_append_right)) | exact Sees.root (hR _ (by omega)) | exact Sees.own (RowsIn.mem (by repeat (first | exact RowsIn.here | exact RowsIn.last | apply RowsIn.there | apply RowsIn.thereS)) _ (by omega)) | exact Sees.own (WRowsIn.mem (by repeat (first | exact WRowsIn.here | exact WRowsIn.last | apply WRowsIn.there | apply WRowsIn.thereS)) _ (by omega))) rfl) ?_
    refine SW.q rfl (.inr ⟨_, _, _, rfl, rfl, rfl⟩) rfl (by decide) (yq_callf rfl known37_MeshB (.cons rfl .nil) (fun w hw => c_l02Size _)) ?_
    refine SW.r rfl (.inl rfl) rfl (by decide) (yr_pick_t rfl rfl rfl) ?_
    refine SW.r rfl (.inl rfl) rfl (by decide) (yr_move rfl rfl) ?_
    refine SW.split lax_ve 15 _ rfl (fun h2 => ?_) (fun h2 => ?_)
    · skip
      refine SW.r rfl (.inr ⟨_, _, _, rfl, rfl, rfl⟩) rfl (by decide) (yr_move rfl rfl) ?_
      refine SW.r rfl (.inr ⟨_, _, _, rfl, rfl, rfl⟩) rfl (by decide) (yr_nilCheck rfl rfl) ?_
      refine SW.r rfl (.inr ⟨_, _, _, rfl, rfl, rfl⟩) rfl (by decide) (yr_fieldAddr rfl Try.underlying30 rfl rfl sz2_MeshB (by decide) rfl) ?_
      refine SW.q rfl (.inr ⟨_, _, _, rfl, rfl, rfl⟩) rfl (by decide) (yq_load rfl fb2_MeshB rfl (by first | exact Sees.root (by assumption) | exact Sees.own (by repeat (first | exact List.mem_cons_self | exact List.mem_append_left _ (by assumption) | apply List.mem_cons_of_mem | apply List.mem_append_right)) | exact Sees.root (hR _ (by omega)) | exact Sees.own (RowsIn.mem (by repeat (first | exact RowsIn.here | exact RowsIn.last | apply RowsIn.there | apply RowsIn.thereS)) _ (by omega)) | exact Sees.own (WRowsIn.mem (by repeat (first | exact WRowsIn.here | exact WRowsIn.last | apply WRowsIn.there | apply WRowsIn.thereS)) _ (by omega))) rfl) ?_
      refine SW.r rfl (.inr ⟨_, _, _, rfl, rfl, rfl⟩) rfl (by decide) (yr_move rfl rfl) ?_
      refine SW.r rfl (.inr ⟨_, _, _, rfl, rfl, rfl⟩) rfl (by decide) (yr_nilCheck rfl rfl) ?_
      refine SW.r rfl (.inr ⟨_, _, _, rfl, rfl, rfl⟩) rfl (by decide) (yr_fieldAddr rfl Try.underlying30 rfl rfl sz2_MeshB (by decide) rfl) ?_
      refine SW.q rfl (.inr ⟨_, _, _, rfl, rfl, rfl⟩) rfl (by decide) (yq_load rfl fb2_MeshB rfl (by first | exact Sees.root (by assumption) | exact Sees.own (by repeat (first | exact List.mem_cons_self | exact List.mem_append_left _ (by assumption) | apply List.mem_cons_of_mem | apply List.mem_append_right)) | exact Sees.root (hR _ (by omega)) | exact Sees.own (RowsIn.mem (by repeat (first | exact RowsIn.here | exact RowsIn.last | apply RowsIn.there | apply RowsIn.thereS)) _ (by omega)) | exact Sees.own (WRowsIn.mem (by repeat (first | exact WRowsIn.here | exact WRowsIn.last | apply WRowsIn.there | apply WRowsIn.thereS)) _ (by omega))) rfl) ?_
      refine SW.r rfl (.inr ⟨_, _, _, rfl, rfl, rfl⟩) rfl (by decide) (yr_move rfl rfl) ?_
      refine SW.r rfl (.inr ⟨_, _, _, rfl, rfl, rfl⟩) rfl (by decide) (yr_nilCheck rfl rfl) ?_
      refine SW.r rfl (.inr ⟨_, _, _, rfl, rfl, rfl⟩) rfl (by decide) (yr_fieldAddr rfl Try.underlying30 rfl rfl sz2_MeshB (by decide) rfl) ?_
      refine SW.q rfl (.inr ⟨_, _, _, rfl, rfl, rfl⟩) rfl (by decide) (yq_load rfl fb2_MeshB rfl (by first | exact Sees.root (by assumption) | exact Sees.own (by repeat (first | exact List.mem_cons_self | exact List.mem_append_left _ (by assumption) | apply List.mem_cons_of_mem | apply List.mem_append_right)) | exact Sees.root (hR _ (by omega)) | exact Sees.own (RowsIn.mem (by repeat (first | exact RowsIn.here | exact RowsIn.last | apply RowsIn.there | apply RowsIn.thereS)) _ (by omega)) | exact Sees.own (WRowsIn.mem (by repeat (first | exact WRowsIn.here | exact WRowsIn.last | apply WRowsIn.there | apply WRowsIn.thereS)) _ (by omega))) rfl) ?_
      refine SW.q rfl (.inr ⟨_, _, _, rfl, rfl, rfl⟩) rfl (by decide) (yq_callf rfl known38_MeshB (.cons rfl (.cons rfl (.cons rfl .nil))) (fun w hw => c_l06Sizes)) ?_
      refine SW.r rfl (.inl rfl) rfl (by decide) (yr_pick_t rfl rfl rfl) ?_
      refine SW.r rfl (.inl rfl) rfl (by decide) (yr_move rfl rfl) ?_
      refine SW.split lax_ve 30 _ rfl (fun h3 => ?_) (fun h3 => ?_)
      · skip
        obtain ⟨W9, H9, D9, hW9, hH9, hD9, g1, g2, g3, g4, g5, g6, g7⟩ := szOk_is (wi := wi) (hi := hi) (de := de) (by assumption)
        have hb := mesh_mul (wi := wi) (hi := hi) (de := de) (decide_eq_true (by omega)) (decide_eq_true (by omega)) (decide_eq_true (by omega))
        refine SW.r rfl (.inr ⟨_, _, _, rfl, rfl, rfl⟩) rfl (by decide) (yr_move rfl rfl) ?_
        refine SW.r rfl (.inr ⟨_, _, _, rfl, rfl, rfl⟩) rfl (by decide) (yr_nilCheck rfl rfl) ?_
        refine SW.r rfl (.inr ⟨_, _, _, rfl, rfl, rfl⟩) rfl (by decide) (yr_fieldAddr rfl Try.underlying30 rfl rfl sz28_MeshB (by decide) rfl) ?_
        refine SW.q rfl (.inr ⟨_, _, _, rfl, rfl, rfl⟩) rfl (by decide) (yq_load rfl fb28_MeshB rfl (by first | exact Sees.root (by assumption) | exact Sees.own (by repeat (first | exact List.mem_cons_self | exact List.mem_append_left _ (by assumption) | apply List.mem_cons_of_mem | apply List.mem_append_right)) | exact Sees.root (hR _ (by omega)) | exact Sees.own (RowsIn.mem (by repeat (first | exact RowsIn.here | exact RowsIn.last | apply RowsIn.there | apply RowsIn.thereS)) _ (by omega)) | exact Sees.own (WRowsIn.mem (by repeat (first | exact WRowsIn.here | exact WRowsIn.last | apply WRowsIn.there | apply WRowsIn.thereS)) _ (by omega))) rfl) ?_
        refine SW.r rfl (.inr ⟨_, _, _, rfl, rfl, rfl⟩) rfl (by decide) (yr_len rfl Try.underlying28 rfl) ?_
        refine SW.r rfl (.inr ⟨_, _, _, rfl, rfl, rfl⟩) rfl (by decide) (yr_move rfl rfl) ?_
        refine SW.r rfl (.inr ⟨_, _, _, rfl, rfl, rfl⟩) rfl (by decide) (yr_nilCheck rfl rfl) ?_
        refine SW.r rfl (.inr ⟨_, _, _, rfl, rfl, rfl⟩) rfl (by decide) (yr_fieldAddr rfl Try.underlying30 rfl rfl sz2_MeshB (by decide) rfl) ?_
        refine SW.q rfl (.inr ⟨_, _, _, rfl, rfl, rfl⟩) rfl (by decide) (yq_load rfl fb2_MeshB rfl (by first | exact Sees.root (by assumption) | exact Sees.own (by repeat (first | exact List.mem_cons_self | exact List.mem_append_left _ (by assumption) | apply List.mem_cons_of_mem | apply List.mem_append_right)) | exact Sees.root (hR _ (by omega)) | exact Sees.own (RowsIn.mem (by repeat (first | exact RowsIn.here | exact RowsIn.last | apply RowsIn.there | apply RowsIn.thereS)) _ (by omega)) | exact Sees.own (WRowsIn.mem (by repeat (first | exact WRowsIn.here | exact WRowsIn.last | apply WRowsIn.there | apply WRowsIn.thereS)) _ (by omega))) rfl) ?_
        refine SW.r rfl (.inr ⟨_, _, _, rfl, rfl, rfl⟩) rfl (by decide) (yr_move rfl rfl) ?_
        refine SW.r rfl (.inr ⟨_, _, _, rfl, rfl, rfl⟩) rfl (by decide) (yr_nilCheck rfl rfl) ?_
        refine SW.r rfl (.inr ⟨_, _, _, rfl, rfl, rfl⟩) rfl (by decide) (yr_fieldAddr rfl Try.underlying30 rfl rfl sz2_MeshB (by decide) rfl) ?_
        refine SW.q rfl (.inr ⟨_, _, _, rfl, rfl, rfl⟩) rfl (by decide) (yq_load rfl fb2_MeshB rfl (by first | exact Sees.root (by assumption) | exact Sees.own (by repeat (first | exact List.mem_cons_self | exact List.mem_append_left _ (by assumption) | apply List.mem_cons_of_mem | apply List.mem_append_right)) | exact Sees.root (hR _ (by omega)) | exact Sees.own (RowsIn.mem (by repeat (first | exact RowsIn.here | exact RowsIn.last | apply RowsIn.there | apply RowsIn.thereS)) _ (by omega)) | exact Sees.own (WRowsIn.mem (by repeat (first | exact WRowsIn.here | exact WRowsIn.last | apply WRowsIn.there | apply WRowsIn.thereS)) _ (by omega))) rfl) ?_
        refine SW.r rfl (.inr ⟨_, _, _, rfl, rfl, rfl⟩) rfl (by decide) (yr_int rfl rfl rfl (.inr (.inr ⟨rfl, wrap_in (by omega)⟩))) ?_
        refine SW.r rfl (.inr ⟨_, _, _, rfl, rfl, rfl⟩) rfl (by decide) (yr_move rfl rfl) ?_
        refine SW.r rfl (.inr ⟨_, _, _, rfl, rfl, rfl⟩) rfl (by decide) (yr_nilCheck rfl rfl) ?_
        refine SW.r rfl (.inr ⟨_, _, _, rfl, rfl, rfl⟩) rfl (by decide) (yr_fieldAddr rfl Try.underlying30 rfl rfl sz2_MeshB (by decide) rfl) ?_
        refine SW.q rfl (.inr ⟨_, _, _, rfl, rfl, rfl⟩) rfl (by decide) (yq_load rfl fb2_MeshB rfl (by first | exact Sees.root (by assumption) | exact Sees.own (by repeat (first | exact List.mem_cons_self | exact List.mem_append_left _ (by assumption) | apply List.mem_cons_of_mem | apply List.mem_append_right)) | exact Sees.root (hR _ (by omega)) | exact Sees.own (RowsIn.mem (by repeat (first | exact RowsIn.here | exact RowsIn.last | apply RowsIn.there | apply RowsIn.thereS)) _ (by omega)) | exact Sees.own (WRowsIn.mem (by repeat (first | exact WRowsIn.here | exact WRowsIn.last | apply WRowsIn.there | apply WRowsIn.thereS)) _ (by omega))) rfl) ?_
        refine SW.r rfl (.inr ⟨_, _, _, rfl, rfl, rfl⟩) rfl (by decide) (yr_int rfl rfl rfl (.inr (.inr ⟨rfl, wrap_in (by omega)⟩))) ?_
        refine SW.r rfl (.inr ⟨_, _, _, rfl, rfl, rfl⟩) rfl (by decide) (yr_icmp rfl (.inl rfl) rfl rfl) ?_
        refine SW.r rfl (.inl rfl) rfl (by decide) (yr_pick_t rfl rfl rfl) ?_
        refine SW.r rfl (.inl rfl) rfl (by decide) (yr_assign rfl rfl) ?_
        refine SW.done ?_
        refine VE.then_wp ?_
        refine V.ret ?_
        refine ret1 rfl rfl (fun w1 hw => ?_)
        first
          | exact ⟨congrArg Value.bool (meshOk_no1 (f := (f1, f2, f3)) (by assumption)), hw.below⟩
          | exact ⟨congrArg Value.bool (meshOk_no2 (by assumption)), hw.below⟩
          | exact ⟨congrArg Value.bool (meshOk_no3 (by assumption)), hw.below⟩
          | exact ⟨congrArg Value.bool (meshOk_no3 (szOk_no1 (by assumption)).symm), hw.below⟩
          | exact ⟨congrArg Value.bool (meshOk_no3 (szOk_no2 (by assumption)).symm), hw.below⟩
          | exact ⟨congrArg Value.bool (meshOk_no3 (szOk_no3 (by assumption)).symm), hw.below⟩
          | exact ⟨congrArg Value.bool (meshOk_no3 (szOk_no4 (by omega))), hw.below⟩
          | exact ⟨congrArg Value.bool (meshOk_last (f := (f1, f2, f3)) (by assumption) (by assumption) (by assumption)), hw.below⟩
          | exact ⟨congrArg Value.bool (meshOk_last (f := (f1, f2, f3)) (by assumption) (by assumption) (szOk_yes (by assumption) (by assumption) (by assumption) (by omega))), hw.below⟩
      · skip
        refine SW.no rfl (by decide) rfl rfl rfl rfl rfl (by decide) ?_
        refine SW.no rfl (by decide) rfl rfl rfl rfl rfl (by decide) ?_
        refine SW.no rfl (by decide) rfl rfl rfl rfl rfl (by decide) ?_
        refine SW.no rfl (by decide) rfl rfl rfl rfl rfl (by decide) ?_
        refine SW.no rfl (by decide) rfl rfl rfl rfl rfl (by decide) ?_
        refine SW.no rfl (by decide) rfl rfl rfl rfl rfl (by decide) ?_
        refine SW.no rfl (by decide) rfl rfl rfl rfl rfl (by decide) ?_
        refine SW.no rfl (by decide) rfl rfl rfl rfl rfl (by decide) ?_
        refine SW.no rfl (by decide) rfl rfl rfl rfl rfl (by decide) ?_
        refine SW.no rfl (by decide) rfl rfl rfl rfl rfl (by decide) ?_
        refine SW.no rfl (by decide) rfl rfl rfl rfl rfl (by decide) ?_
        refine SW.no rfl (by decide) rfl rfl rfl rfl rfl (by decide) ?_
        refine SW.no rfl (by decide) rfl rfl rfl rfl rfl (by decide) ?_
        refine SW.no rfl (by decide) rfl rfl rfl rfl rfl (by decide) ?_
        refine SW.no rfl (by decide) rfl rfl rfl rfl rfl (by decide) ?_
        refine SW.no rfl (by decide) rfl rfl rfl rfl rfl (by decide) ?_
        refine SW.no rfl (by decide) rfl rfl rfl rfl rfl (by decide) ?_
        refine SW.no rfl (by decide) rfl rfl rfl rfl rfl (by decide) ?_
        refine SW.no rfl (by decide) rfl rfl rfl rfl rfl (by decide) ?_
        refine SW.no rfl (by decide) rfl rfl rfl rfl rfl (by decide) ?_
        refine SW.r rfl (.inl rfl) rfl (by decide) (yr_pick_f (u := .bool false) rfl rfl rfl) ?_
        refine SW.r rfl (.inl rfl) rfl (by decide) (yr_assign rfl rfl) ?_
        refine SW.done ?_
        refine VE.then_wp ?_
        refine V.ret ?_
        refine ret1 rfl rfl (fun w1 hw => ?_)
        first
          | exact ⟨congrArg Value.bool (meshOk_no1 (f := (f1, f2, f3)) (by assumption)), hw.below⟩
          | exact ⟨congrArg Value.bool (meshOk_no2 (by assumption)), hw.below⟩
          | exact ⟨congrArg Value.bool (meshOk_no3 (by assumption)), hw.below⟩
          | exact ⟨congrArg Value.bool (meshOk_no3 (szOk_no1 (by assumption)).symm), hw.below⟩
          | exact ⟨congrArg Value.bool (meshOk_no3 (szOk_no2 (by assumption)).symm), hw.below⟩
          | exact ⟨congrArg Value.bool (meshOk_no3 (szOk_no3 (by assumption)).symm), hw.below⟩
          | exact ⟨congrArg Value.bool (meshOk_no3 (szOk_no4 (by omega))), hw.below⟩
          | exact ⟨congrArg Value.bool (meshOk_last (f := (f1, f2, f3)) (by assumption) (by assumption) (by assumption)), hw.below⟩
          | exact ⟨congrArg Value.bool (meshOk_last (f := (f1, f2, f3)) (by assumption) (by assumption) (szOk_yes (by assumption) (by assumption) (by assumption) (by omega))), hw.below⟩
    · skip
      refine SW.no rfl (by decide) rfl rfl rfl rfl rfl (by decide) ?_
      refine SW.no rfl (by decide) rfl rfl rfl rfl rfl (by decide) ?_
      refine SW.no rfl (by decide) rfl rfl rfl rfl rfl (by decide) ?_
      refine SW.no rfl (by decide) rfl rfl rfl rfl rfl (by decide) ?_
      refine SW.no rfl (by decide) rfl rfl rfl rfl rfl (by decide) ?_
      refine SW.no rfl (by decide) rfl rfl rfl rfl rfl (by decide) ?_
      refine SW.no rfl (by decide) rfl rfl rfl rfl rfl (by decide) ?_
      refine SW.no rfl (by decide) rfl rfl rfl rfl rfl (by decide) ?_
      refine SW.no rfl (by decide) rfl rfl rfl rfl rfl (by decide) ?_
      refine SW.no rfl (by decide) rfl rfl rfl rfl rfl (by decide) ?_
      refine SW.no rfl (by decide) rfl rfl rfl rfl rfl (by decide) ?_
      refine SW.no rfl (by decide) rfl rfl rfl rfl rfl (by decide) ?_
      refine SW.no rfl (by decide) rfl rfl rfl rfl rfl (by decide) ?_
      refine SW.r rfl (.inl rfl) rfl (by decide) (yr_pick_f (u := .bool false) rfl rfl rfl) ?_
      refine SW.r rfl (.inl rfl) rfl (by decide) (yr_move rfl rfl) ?_
      refine SW.no rfl (by decide) rfl rfl rfl rfl rfl (by decide) ?_
      refine SW.no rfl (by decide) rfl rfl rfl rfl rfl (by decide) ?_
      refine SW.no rfl (by decide) rfl rfl rfl rfl rfl (by decide) ?_
      refine SW.no rfl (by decide) rfl rfl rfl rfl rfl (by decide) ?_
      refine SW.no rfl (by decide) rfl rfl rfl rfl rfl (by decide) ?_
      refine SW.no rfl (by decide) rfl rfl rfl rfl rfl (by decide) ?_
      refine SW.no rfl (by decide) rfl rfl rfl rfl rfl (by decide) ?_
      refine SW.no rfl (by decide) rfl rfl rfl rfl rfl (by decide) ?_
      refine SW.no rfl (by decide) rfl rfl rfl rfl rfl (by decide) ?_
      refine SW.no rfl (by decide) rfl rfl rfl rfl rfl (by decide) ?_
      refine SW.no rfl (by decide) rfl rfl rfl rfl rfl (by decide) ?_
      refine SW.no rfl (by decide) rfl rfl rfl rfl rfl (by decide) ?_
      refine SW.no rfl (by decide) rfl rfl rfl rfl rfl (by decide) ?_
      refine SW.no rfl (by decide) rfl rfl rfl rfl rfl (by decide) ?_
      refine SW.no rfl (by decide) rfl rfl rfl rfl rfl (by decide) ?_
      refine SW.no rfl (by decide) rfl rfl rfl rfl rfl (by decide) ?_
      refine SW.no rfl (by decide) rfl rfl rfl rfl rfl (by decide) ?_
      refine SW.no rfl (by decide) rfl rfl rfl rfl rfl (by decide) ?_
      refine SW.no rfl (by decide) rfl rfl rfl rfl rfl (by decide) ?_
      refine SW.no rfl (by decide) rfl rfl rfl rfl rfl (by decide) ?_
      refine SW.r rfl (.inl rfl) rfl (by decide) (yr_pick_f (u := .bool false) rfl rfl rfl) ?_
      refine SW.r rfl (.inl rfl) rfl (by decide) (yr_assign rfl rfl) ?_
      refine SW.done ?_
      refine VE.then_wp ?_
      refine V.ret ?_
      refine ret1 rfl rfl (fun w1 hw => ?_)
      first
        | exact ⟨congrArg Value.bool (meshOk_no1 (f := (f1, f2, f3)) (by assumption)), hw.below⟩
        | exact ⟨congrArg Value.bool (meshOk_no2 (by assumption)), hw.below⟩
        | exact ⟨congrArg Value.bool (meshOk_no3 (by assumption)), hw.below⟩
        | exact ⟨congrArg Value.bool (meshOk_no3 (szOk_no1 (by assumption)).symm), hw.below⟩
        | exact ⟨congrArg Value.bool (meshOk_no3 (szOk_no2 (by assumption)).symm), hw.below⟩
        | exact ⟨congrArg Value.bool (meshOk_no3 (szOk_no3 (by assumption)).symm), hw.below⟩
        | exact ⟨congrArg Value.bool (meshOk_no3 (szOk_no4 (by omega))), hw.below⟩
        | exact ⟨congrArg Value.bool (meshOk_last (f := (f1, f2, f3)) (by assumption) (by assumption) (by assumption)), hw.below⟩
        | exact ⟨congrArg Value.bool (meshOk_last (f := (f1, f2, f3)) (by assumption) (by assumption) (szOk_yes (by assumption) (by assumption) (by assumption) (by omega))), hw.below⟩
  · skip
    refine SW.no rfl (by decide) rfl rfl rfl rfl rfl (by decide) ?_
    refine SW.no rfl (by decide) rfl rfl rfl rfl rfl (by decide) ?_
    refine SW.no rfl (by decide) rfl rfl rfl rfl rfl (by decide) ?_
    refine SW.no rfl (by decide) rfl rfl rfl rfl rfl (by decide) ?_
    refine SW.no rfl (by decide) rfl rfl rfl rfl rfl (by decide) ?_
    refine SW.r rfl (.inl rfl) rfl (by decide) (yr_pick_f (u := .bool false) rfl rfl rfl) ?_
    refine SW.r rfl (.inl rfl) rfl (by decide) (yr_move rfl rfl) ?_
    refine SW.no rfl (by decide) rfl rfl rfl rfl rfl (by decide) ?_
    refine SW.no rfl (by decide) rfl rfl rfl rfl rfl (by decide) ?_
    refine SW.no rfl (by decide) rfl rfl rfl rfl rfl (by decide) ?_
    refine SW.no rfl (by decide) rfl rfl rfl rfl rfl (by decide) ?_
    refine SW.no rfl (by decide) rfl rfl rfl rfl rfl (by decide) ?_
    refine SW.no rfl (by decide) rfl rfl rfl rfl rfl (by decide) ?_
    refine SW.no rfl (by decide) rfl rfl rfl rfl rfl (by decide) ?_
    refine SW.no rfl (by decide) rfl rfl rfl rfl rfl (by decide) ?_
    refine SW.no rfl (by decide) rfl rfl rfl rfl rfl (by decide) ?_
    refine SW.no rfl (by decide) rfl rfl rfl rfl rfl (by decide) ?_
    refine SW.no rfl (by decide) rfl rfl rfl rfl rfl (by decide) ?_
    refine SW.no rfl (by decide) rfl rfl rfl rfl rfl (by decide) ?_
    refine SW.no rfl (by decide) rfl rfl rfl rfl rfl (by decide) ?_
    refine SW.r rfl (.inl rfl) rfl (by decide) (yr_pick_f (u := .bool false) rfl rfl rfl) ?_
    refine SW.r rfl (.inl rfl) rfl (by decide) (yr_move rfl rfl) ?_
    refine SW.no rfl (by decide) rfl rfl rfl rfl rfl (by decide) ?_
    refine SW.no rfl (by decide) rfl rfl rfl rfl rfl (by decide) ?_
    refine SW.no rfl (by decide) rfl rfl rfl rfl rfl (by decide) ?_
    refine SW.no rfl (by decide) rfl rfl rfl rfl rfl (by decide) ?_
    refine SW.no rfl (by decide) rfl rfl rfl rfl rfl (by decide) ?_
    refine SW.no rfl (by decide) rfl rfl rfl rfl rfl (by decide) ?_
    refine SW.no rfl (by decide) rfl rfl rfl rfl rfl (by decide) ?_
    refine SW.no rfl (by decide) rfl rfl rfl rfl rfl (by decide) ?_
    refine SW.no rfl (by decide) rfl rfl rfl rfl rfl (by decide) ?_
    refine SW.no rfl (by decide) rfl rfl rfl rfl rfl (by decide) ?_
    refine SW.no rfl (by decide) rfl rfl rfl rfl rfl (by decide) ?_
    refine SW.no rfl (by decide) rfl rfl rfl rfl rfl (by decide) ?_
    refine SW.no rfl (by decide) rfl rfl rfl rfl rfl (by decide) ?_
    refine SW.no rfl (by decide) rfl rfl rfl rfl rfl (by decide) ?_
    refine SW.no rfl (by decide) rfl rfl rfl rfl rfl (by decide) ?_
    refine SW.no rfl (by decide) rfl rfl rfl rfl rfl (by decide) ?_
    refine SW.no rfl (by decide) rfl rfl rfl rfl rfl (by decide) ?_
    refine SW.no rfl (by decide) rfl rfl rfl rfl rfl (by decide) ?_
    refine SW.no rfl (by decide) rfl rfl rfl rfl rfl (by decide) ?_
    refine SW.no rfl (by decide) rfl rfl rfl rfl rfl (by decide) ?_
    refine SW.r rfl (.inl rfl) rfl (by decide) (yr_pick_f (u := .bool false) rfl rfl rfl) ?_
    refine SW.r rfl (.inl rfl) rfl (by decide) (yr_assign rfl rfl) ?_
    refine SW.done ?_
    refine VE.then_wp ?_
    refine V.ret ?_
    refine ret1 rfl rfl (fun w1 hw => ?_)
    first
      | exact ⟨congrArg Value.bool (meshOk_no1 (f := (f1, f2, f3)) (by assumption)), hw.below⟩
      | exact ⟨congrArg Value.bool (meshOk_no2 (by assumption)), hw.below⟩
      | exact ⟨congrArg Value.bool (meshOk_no3 (by assumption)), hw.below⟩
      | exact ⟨congrArg Value.bool (meshOk_no3 (szOk_no1 (by assumption)).symm), hw.below⟩
      | exact ⟨congrArg Value.bool (meshOk_no3 (szOk_no2 (by assumption)).symm), hw.below⟩
      | exact ⟨congrArg Value.bool (meshOk_no3 (szOk_no3 (by assumption)).symm), hw.below⟩
      | exact ⟨congrArg Value.bool (meshOk_no3 (szOk_no4 (by omega))), hw.below⟩
      | exact ⟨congrArg Value.bool (meshOk_last (f := (f1, f2, f3)) (by assumption) (by assumption) (by assumption)), hw.below⟩
      | exact ⟨congrArg Value.bool (meshOk_last (f := (f1, f2, f3)) (by assumption) (by assumption) (szOk_yes (by assumption) (by assumption) (by assumption) (by omega))), hw.below⟩

theorem c_eqMesh {w : World} {f1 f2 f3 st : Nat} {wi hi de : Int} {a : Option Addr} {c : Nat} {vs : List V3} {g1 g2 g3 st2 : Nat} {wi2 hi2 de2 : Int} {b : Option Addr} {d : Nat} {us : List V3} (hA : Cl w a (vl vs)) (hB : Cl w b (vl us)) (hX : Cans3 vs) (hY : Cans3 us) (hf : Can3 (f1, f2, f3)) (hg : Can3 (g1, g2, g3)) (hs : Can .f32 st) (hs2 : Can .f32 st2) (hn : vs.length ≤ 1050000) : Pure Try.prog 13 [.agg #[.float .f32 f1, .float .f32 f2, .float .f32 f3, .float .f32 st, .int .i64 wi, .int .i64 hi, .int .i64 de, .slice a vs.length c], .agg #[.float .f32 g1, .float .f32 g2, .float .f32 g3, .float .f32 st2, .int .i64 wi2, .int .i64 hi2, .int .i64 de2, .slice b us.length d]] w (.bool ((((f1, f2, f3) : V3) == (g1, g2, g3)) && st == st2 && wi == wi2 && hi == hi2 && de == de2 && vs == us)) := by
  refine Pure.enter Try.func13 rfl Try.ntmps13 (Nat.le_of_ble_eq_true rfl) ?_
  refine V.seq ?_
  refine V.region ?_
  refine VL.new1 (.inl rfl) rfl (by decide) (yn_box rfl rfl (.inr ⟨rfl, rfl⟩)) ?_
  intro b2
  refine VL.new1 (.inl rfl) rfl (by decide) (yn_box rfl rfl (.inr ⟨rfl, rfl⟩)) ?_
  intro b3
  refine VL.r (.inl rfl) rfl (by decide) (yr_assign (u := .bool false) rfl rfl) ?_
  refine VL.nil ?_
  refine VE.then_wp ?_
  refine V.seq ?_
  refine V.seq ?_
  refine V.region ?_
  refine VL.r (.inl rfl) rfl (by decide) (yr_fieldAddr rfl Try.underlying30 rfl rfl sz27_MeshB (by decide) rfl) ?_
  refine VL.q (.inl rfl) rfl (by decide) (yq_loadS rfl Try.underlying27 sz27_MeshB rfl (by first | exact Sees.root (by assumption) | exact Sees.own (by repeat (first | exact List.mem_cons_self | exact List.mem_append_left _ (by assumption) | apply List.mem_cons_of_mem | apply List.mem_append_right)) | exact Sees.root (hR _ (by omega)) | exact Sees.own (RowsIn.mem (by repeat (first | exact RowsIn.here | exact RowsIn.last | apply RowsIn.there | apply RowsIn.thereS)) _ (by omega)) | exact Sees.own (WRowsIn.mem (by repeat (first | exact WRowsIn.here | exact WRowsIn.last | apply WRowsIn.there | apply WRowsIn.thereS)) _ (by omega))) rfl rfl rfl) ?_
  refine VL.r (.inl rfl) rfl (by decide) (yr_fieldAddr rfl Try.underlying30 rfl rfl sz27_MeshB (by decide) rfl) ?_
  refine VL.q (.inl rfl) rfl (by decide) (yq_loadS rfl Try.underlying27 sz27_MeshB rfl (by first | exact Sees.root (by assumption) | exact Sees.own (by repeat (first | exact List.mem_cons_self | exact List.mem_append_left _ (by assumption) | apply List.mem_cons_of_mem | apply List.mem_append_right)) | exact Sees.root (hR _ (by omega)) | exact Sees.own (RowsIn.mem (by repeat (first | exact RowsIn.here | exact RowsIn.last | apply RowsIn.there | apply RowsIn.thereS)) _ (by omega)) | exact Sees.own (WRowsIn.mem (by repeat (first | exact WRowsIn.here | exact WRowsIn.last | apply WRowsIn.there | apply WRowsIn.thereS)) _ (by omega))) rfl rfl rfl) ?_
  refine VL.q (.inl rfl) rfl (by decide) (yq_callf rfl known49_MeshB (.cons rfl (.cons rfl .nil)) (fun w hw => (c_eqVec (by assumption) (by assumption)))) ?_
  refine VL.r (.inl rfl) rfl (by decide) (yr_not rfl rfl) ?_
  refine VL.nil ?_
  refine VE.then_wp ?_
  refine V.cond rfl (fun h1 => ?_) (fun h1 => ?_)
  · skip
    replace h1 := bnot_t h1
    refine V.seq ?_
    refine V.region ?_
    refine VL.r (.inl rfl) rfl (by decide) (yr_assign (u := .bool false) rfl rfl) ?_
    refine VL.nil ?_
    refine VE.then_wp ?_
    refine V.ret ?_
    refine VE.then_ret ?_
    refine ret1 rfl rfl (fun w1 hw => ?_)
    refine ⟨congrArg Value.bool ?_, hw.below⟩
    have e1 := up_beq hs hs2
    rw [← e1]
    have n1 : ∀ x y : Int, ¬ x = y → (x == y) = false := fun x y h => by simpa using h
    have n2 : ∀ x y : Int, x = y → (x == y) = true := fun x y h => by simpa using h
    first
      | (simp only [*, Bool.false_and, Bool.and_false, Bool.true_and, Bool.and_true]; done)
      | (rw [n1 _ _ (show ¬ wi = wi2 by omega)]; simp only [*, Bool.false_and, Bool.and_false, Bool.true_and, Bool.and_true]; done)
      | (rw [n1 _ _ (show ¬ hi = hi2 by omega)]; simp only [*, Bool.false_and, Bool.and_false, Bool.true_and, Bool.and_true]; done)
      | (rw [n1 _ _ (show ¬ de = de2 by omega)]; simp only [*, Bool.false_and, Bool.and_false, Bool.true_and, Bool.and_true]; done)
      | (rw [n2 _ _ (show wi = wi2 by omega), n2 _ _ (show hi = hi2 by omega), n2 _ _ (show de = de2 by omega)]
         simp only [*, Bool.false_and, Bool.and_false, Bool.true_and, Bool.and_true]; done)
  · skip
    replace h1 := bnot_f h1
    refine V.skip ?_
    refine VE.then_wp ?_
    refine V.seq ?_
    refine V.seq ?_
    refine V.region ?_
    refine VL.r (.inl rfl) rfl (by decide) (yr_fieldAddr rfl Try.underlying30 rfl rfl sz23_MeshB (by decide) rfl) ?_
    refine VL.q (.inl rfl) rfl (by decide) (yq_load rfl fb23_MeshB rfl (by first | exact Sees.root (by assumption) | exact Sees.own (by repeat (first | exact List.mem_cons_self | exact List.mem_append_left _ (by assumption) | apply List.mem_cons_of_mem | apply List.mem_append_right)) | exact Sees.root (hR _ (by omega)) | exact Sees.own (RowsIn.mem (by repeat (first | exact RowsIn.here | exact RowsIn.last | apply RowsIn.there | apply RowsIn.thereS)) _ (by omega)) | exact Sees.own (WRowsIn.mem (by repeat (first | exact WRowsIn.here | exact WRowsIn.last | apply WRowsIn.there | apply WRowsIn.thereS)) _ (by omega))) rfl) ?_
    refine VL.r (.inl rfl) rfl (by decide) (yr_fconv rfl Try.underlying23 Try.underlying56 (by decide) rfl (fover_up _)) ?_
    refine VL.r (.inl rfl) rfl (by decide) (yr_fieldAddr rfl Try.underlying30 rfl rfl sz23_MeshB (by decide) rfl) ?_
    refine VL.q (.inl rfl) rfl (by decide) (yq_load rfl fb23_MeshB rfl (by first | exact Sees.root (by assumption) | exact Sees.own (by repeat (first | exact List.mem_cons_self | exact List.mem_append_left _ (by assumption) | apply List.mem_cons_of_mem | apply List.mem_append_right)) | exact Sees.root (hR _ (by omega)) | exact Sees.own (RowsIn.mem (by repeat (first | exact RowsIn.here | exact RowsIn.last | apply RowsIn.there | apply RowsIn.thereS)) _ (by omega)) | exact Sees.own (WRowsIn.mem (by repeat (first | exact WRowsIn.here | exact WRowsIn.last | apply WRowsIn.there | apply WRowsIn.thereS)) _ (by omega))) rfl) ?_
    refine VL.r (.inl rfl) rfl (by decide) (yr_fconv rfl Try.underlying23 Try.underlying56 (by decide) rfl (fover_up _)) ?_
    refine VL.q (.inl rfl) rfl (by decide) (yq_callf rfl known33_MeshB (.cons rfl (.cons rfl .nil)) (fun w hw => (c_sameFloat _ _ (can_up _) (can_up _)))) ?_
    refine VL.r (.inl rfl) rfl (by decide) (yr_not rfl rfl) ?_
    refine VL.nil ?_
    refine VE.then_wp ?_
    refine V.cond rfl (fun h2 => ?_) (fun h2 => ?_)
    · skip
      replace h2 := bnot_t h2
      refine V.seq ?_
      refine V.region ?_
      refine VL.r (.inl rfl) rfl (by decide) (yr_assign (u := .bool false) rfl rfl) ?_
      refine VL.nil ?_
      refine VE.then_wp ?_
      refine V.ret ?_
      refine VE.then_ret ?_
      refine ret1 rfl rfl (fun w1 hw => ?_)
      refine ⟨congrArg Value.bool ?_, hw.below⟩
      have e1 := up_beq hs hs2
      rw [← e1]
      have n1 : ∀ x y : Int, ¬ x = y → (x == y) = false := fun x y h => by simpa using h
      have n2 : ∀ x y : Int, x = y → (x == y) = true := fun x y h => by simpa using h
      first
        | (simp only [*, Bool.false_and, Bool.and_false, Bool.true_and, Bool.and_true]; done)
        | (rw [n1 _ _ (show ¬ wi = wi2 by omega)]; simp only [*, Bool.false_and, Bool.and_false, Bool.true_and, Bool.and_true]; done)
        | (rw [n1 _ _ (show ¬ hi = hi2 by omega)]; simp only [*, Bool.false_and, Bool.and_false, Bool.true_and, Bool.and_true]; done)
        | (rw [n1 _ _ (show ¬ de = de2 by omega)]; simp only [*, Bool.false_and, Bool.and_false, Bool.true_and, Bool.and_true]; done)
        | (rw [n2 _ _ (show wi = wi2 by omega), n2 _ _ (show hi = hi2 by omega), n2 _ _ (show de = de2 by omega)]
           simp only [*, Bool.false_and, Bool.and_false, Bool.true_and, Bool.and_true]; done)
    · skip
      replace h2 := bnot_f h2
      refine V.skip ?_
      refine VE.then_wp ?_
      refine V.seq ?_
      refine V.seq ?_
      refine V.region ?_
      refine VL.r (.inl rfl) rfl (by decide) (yr_fieldAddr rfl Try.underlying30 rfl rfl sz2_MeshB (by decide) rfl) ?_
      refine VL.q (.inl rfl) rfl (by decide) (yq_load rfl fb2_MeshB rfl (by first | exact Sees.root (by assumption) | exact Sees.own (by repeat (first | exact List.mem_cons_self | exact List.mem_append_left _ (by assumption) | apply List.mem_cons_of_mem | apply List.mem_append_right)) | exact Sees.root (hR _ (by omega)) | exact Sees.own (RowsIn.mem (by repeat (first | exact RowsIn.here | exact RowsIn.last | apply RowsIn.there | apply RowsIn.thereS)) _ (by omega)) | exact Sees.own (WRowsIn.mem (by repeat (first | exact WRowsIn.here | exact WRowsIn.last | apply WRowsIn.there | apply WRowsIn.thereS)) _ (by omega))) rfl) ?_
      refine VL.r (.inl rfl) rfl (by decide) (yr_fieldAddr rfl Try.underlying30 rfl rfl sz2_MeshB (by decide) rfl) ?_
      refine VL.q (.inl rfl) rfl (by decide) (yq_load rfl fb2_MeshB rfl (by first | exact Sees.root (by assumption) | exact Sees.own (by repeat (first | exact List.mem_cons_self | exact List.mem_append_left _ (by assumption) | apply List.mem_cons_of_mem | apply List.mem_append_right)) | exact Sees.root (hR _ (by omega)) | exact Sees.own (RowsIn.mem (by repeat (first | exact RowsIn.here | exact RowsIn.last | apply RowsIn.there | apply RowsIn.thereS)) _ (by omega)) | exact Sees.own (WRowsIn.mem (by repeat (first | exact WRowsIn.here | exact WRowsIn.last | apply WRowsIn.there | apply WRowsIn.thereS)) _ (by omega))) rfl) ?_
      refine VL.r (.inl rfl) rfl (by decide) (yr_icmp rfl (.inr (.inl rfl)) rfl rfl) ?_
      refine VL.nil ?_
      refine VE.then_wp ?_
      refine V.cond rfl (fun h3 => ?_) (fun h3 => ?_)
      · skip
        replace h3 := ic_neq h3
        refine V.seq ?_
        refine V.region ?_
        refine VL.r (.inl rfl) rfl (by decide) (yr_assign (u := .bool false) rfl rfl) ?_
        refine VL.nil ?_
        refine VE.then_wp ?_
        refine V.ret ?_
        refine VE.then_ret ?_
        refine ret1 rfl rfl (fun w1 hw => ?_)
        refine ⟨congrArg Value.bool ?_, hw.below⟩
        have e1 := up_beq hs hs2
        rw [← e1]
        have n1 : ∀ x y : Int, ¬ x = y → (x == y) = false := fun x y h => by simpa using h
        have n2 : ∀ x y : Int, x = y → (x == y) = true := fun x y h => by simpa using h
        first
          | (simp only [*, Bool.false_and, Bool.and_false, Bool.true_and, Bool.and_true]; done)
          | (rw [n1 _ _ (show ¬ wi = wi2 by omega)]; simp only [*, Bool.false_and, Bool.and_false, Bool.true_and, Bool.and_true]; done)
          | (rw [n1 _ _ (show ¬ hi = hi2 by omega)]; simp only [*, Bool.false_and, Bool.and_false, Bool.true_and, Bool.and_true]; done)
          | (rw [n1 _ _ (show ¬ de = de2 by omega)]; simp only [*, Bool.false_and, Bool.and_false, Bool.true_and, Bool.and_true]; done)
          | (rw [n2 _ _ (show wi = wi2 by omega), n2 _ _ (show hi = hi2 by omega), n2 _ _ (show de = de2 by omega)]
             simp only [*, Bool.false_and, Bool.and_false, Bool.true_and, Bool.and_true]; done)
      · skip
        replace h3 := ic_neq' h3
        refine V.skip ?_
        refine VE.then_wp ?_
        refine V.seq ?_
        refine V.seq ?_
        refine V.region ?_
        refine VL.r (.inl rfl) rfl (by decide) (yr_fieldAddr rfl Try.underlying30 rfl rfl sz2_MeshB (by decide) rfl) ?_
        refine VL.q (.inl rfl) rfl (by decide) (yq_load rfl fb2_MeshB rfl (by first | exact Sees.root (by assumption) | exact Sees.own (by repeat (first | exact List.mem_cons_self | exact List.mem_append_left _ (by assumption) | apply List.mem_cons_of_mem | apply List.mem_append_right)) | exact Sees.root (hR _ (by omega)) | exact Sees.own (RowsIn.mem (by repeat (first | exact RowsIn.here | exact RowsIn.last | apply RowsIn.there | apply RowsIn.thereS)) _ (by omega)) | exact Sees.own (WRowsIn.mem (by repeat (first | exact WRowsIn.here | exact WRowsIn.last | apply WRowsIn.there | apply WRowsIn.thereS)) _ (by omega))) rfl) ?_
        refine VL.r (.inl rfl) rfl (by decide) (yr_fieldAddr rfl Try.underlying30 rfl rfl sz2_MeshB (by decide) rfl) ?_
        refine VL.q (.inl rfl) rfl (by decide) (yq_load rfl fb2_MeshB rfl (by first | exact Sees.root (by assumption) | exact Sees.own (by repeat (first | exact List.mem_cons_self | exact List.mem_append_left _ (by assumption) | apply List.mem_cons_of_mem | apply List.mem_append_right)) | exact Sees.root (hR _ (by omega)) | exact Sees.own (RowsIn.mem (by repeat (first | exact RowsIn.here | exact RowsIn.last | apply RowsIn.there | apply RowsIn.thereS)) _ (by omega)) | exact Sees.own (WRowsIn.mem (by repeat (first | exact WRowsIn.here | exact WRowsIn.last | apply WRowsIn.there | apply WRowsIn.thereS)) _ (by omega))) rfl) ?_
        refine VL.r (.inl rfl) rfl (by decide) (yr_icmp rfl (.inr (.inl rfl)) rfl rfl) ?_
        refine VL.nil ?_
        refine VE.then_wp ?_
        refine V.cond rfl (fun h4 => ?_) (fun h4 => ?_)
        · skip
          replace h4 := ic_neq h4
          refine V.seq ?_
          refine V.region ?_
          refine VL.r (.inl rfl) rfl (by decide) (yr_assign (u := .bool false) rfl rfl) ?_
          refine VL.nil ?_
          refine VE.then_wp ?_
          refine V.ret ?_
          refine VE.then_ret ?_
          refine ret1 rfl rfl (fun w1 hw => ?_)
          refine ⟨congrArg Value.bool ?_, hw.below⟩
          have e1 := up_beq hs hs2
          rw [← e1]
          have n1 : ∀ x y : Int, ¬ x = y → (x == y) = false := fun x y h => by simpa using h
          have n2 : ∀ x y : Int, x = y → (x == y) = true := fun x y h => by simpa using h
          first
            | (simp only [*, Bool.false_and, Bool.and_false, Bool.true_and, Bool.and_true]; done)
            | (rw [n1 _ _ (show ¬ wi = wi2 by omega)]; simp only [*, Bool.false_and, Bool.and_false, Bool.true_and, Bool.and_true]; done)
            | (rw [n1 _ _ (show ¬ hi = hi2 by omega)]; simp only [*, Bool.false_and, Bool.and_false, Bool.true_and, Bool.and_true]; done)
            | (rw [n1 _ _ (show ¬ de = de2 by omega)]; simp only [*, Bool.false_and, Bool.and_false, Bool.true_and, Bool.and_true]; done)
            | (rw [n2 _ _ (show wi = wi2 by omega), n2 _ _ (show hi = hi2 by omega), n2 _ _ (show de = de2 by omega)]
               simp only [*, Bool.false_and, Bool.and_false, Bool.true_and, Bool.and_true]; done)
        · skip
          replace h4 := ic_neq' h4
          refine V.skip ?_
          refine VE.then_wp ?_
          refine V.seq ?_
          refine V.seq ?_
          refine V.region ?_
          refine VL.r (.inl rfl) rfl (by decide) (yr_fieldAddr rfl Try.underlying30 rfl rfl sz2_MeshB (by decide) rfl) ?_
          refine VL.q (.inl rfl) rfl (by decide) (yq_load rfl fb2_MeshB rfl (by first | exact Sees.root (by assumption) | exact Sees.own (by repeat (first | exact List.mem_cons_self | exact List.mem_append_left _ (by assumption) | apply List.mem_cons_of_mem | apply List.mem_append_right)) | exact Sees.root (hR _ (by omega)) | exact Sees.own (RowsIn.mem (by repeat (first | exact RowsIn.here | exact RowsIn.last | apply RowsIn.there | apply RowsIn.thereS)) _ (by omega)) | exact Sees.own (WRowsIn.mem (by repeat (first | exact WRowsIn.here | exact WRowsIn.last | apply WRowsIn.there | apply WRowsIn.thereS)) _ (by omega))) rfl) ?_
          refine VL.r (.inl rfl) rfl (by decide) (yr_fieldAddr rfl Try.underlying30 rfl rfl sz2_MeshB (by decide) rfl) ?_
          refine VL.q (.inl rfl) rfl (by decide) (yq_load rfl fb2_MeshB rfl (by first | exact Sees.root (by assumption) | exact Sees.own (by repeat (first | exact List.mem_cons_self | exact List.mem_append_left _ (by assumption) | apply List.mem_cons_of_mem | apply List.mem_append_right)) | exact Sees.root (hR _ (by omega)) | exact Sees.own (RowsIn.mem (by repeat (first | exact RowsIn.here | exact RowsIn.last | apply RowsIn.there | apply RowsIn.thereS)) _ (by omega)) | exact Sees.own (WRowsIn.mem (by repeat (first | exact WRowsIn.here | exact WRowsIn.last | apply WRowsIn.there | apply WRowsIn.thereS)) _ (by omega))) rfl) ?_
          refine VL.r (.inl rfl) rfl (by decide) (yr_icmp rfl (.inr (.inl rfl)) rfl rfl) ?_
          refine VL.nil ?_
          refine VE.then_wp ?_
          refine V.cond rfl (fun h5 => ?_) (fun h5 => ?_)
          · skip
            replace h5 := ic_neq h5
            refine V.seq ?_
            refine V.region ?_
            refine VL.r (.inl rfl) rfl (by decide) (yr_assign (u := .bool false) rfl rfl) ?_
            refine VL.nil ?_
            refine VE.then_wp ?_
            refine V.ret ?_
            refine VE.then_ret ?_
            refine ret1 rfl rfl (fun w1 hw => ?_)
            refine ⟨congrArg Value.bool ?_, hw.below⟩
            have e1 := up_beq hs hs2
            rw [← e1]
            have n1 : ∀ x y : Int, ¬ x = y → (x == y) = false := fun x y h => by simpa using h
            have n2 : ∀ x y : Int, x = y → (x == y) = true := fun x y h => by simpa using h
            first
              | (simp only [*, Bool.false_and, Bool.and_false, Bool.true_and, Bool.and_true]; done)
              | (rw [n1 _ _ (show ¬ wi = wi2 by omega)]; simp only [*, Bool.false_and, Bool.and_false, Bool.true_and, Bool.and_true]; done)
              | (rw [n1 _ _ (show ¬ hi = hi2 by omega)]; simp only [*, Bool.false_and, Bool.and_false, Bool.true_and, Bool.and_true]; done)
              | (rw [n1 _ _ (show ¬ de = de2 by omega)]; simp only [*, Bool.false_and, Bool.and_false, Bool.true_and, Bool.and_true]; done)
              | (rw [n2 _ _ (show wi = wi2 by omega), n2 _ _ (show hi = hi2 by omega), n2 _ _ (show de = de2 by omega)]
                 simp only [*, Bool.false_and, Bool.and_false, Bool.true_and, Bool.and_true]; done)
          · skip
            replace h5 := ic_neq' h5
            refine V.skip ?_
            refine VE.then_wp ?_
            refine V.seq ?_
            refine V.seq ?_
            refine V.region ?_
            refine VL.r (.inl rfl) rfl (by decide) (yr_fieldAddr rfl Try.underlying30 rfl rfl sz28_MeshB (by decide) rfl) ?_
            refine VL.q (.inl rfl) rfl (by decide) (yq_load rfl fb28_MeshB rfl (by first | exact Sees.root (by assumption) | exact Sees.own (by repeat (first | exact List.mem_cons_self | exact List.mem_append_left _ (by assumption) | apply List.mem_cons_of_mem | apply List.mem_append_right)) | exact Sees.root (hR _ (by omega)) | exact Sees.own (RowsIn.mem (by repeat (first | exact RowsIn.here | exact RowsIn.last | apply RowsIn.there | apply RowsIn.thereS)) _ (by omega)) | exact Sees.own (WRowsIn.mem (by repeat (first | exact WRowsIn.here | exact WRowsIn.last | apply WRowsIn.there | apply WRowsIn.thereS)) _ (by omega))) rfl) ?_
            refine VL.r (.inl rfl) rfl (by decide) (yr_fieldAddr rfl Try.underlying30 rfl rfl sz28_MeshB (by decide) rfl) ?_
            refine VL.q (.inl rfl) rfl (by decide) (yq_load rfl fb28_MeshB rfl (by first | exact Sees.root (by assumption) | exact Sees.own (by repeat (first | exact List.mem_cons_self | exact List.mem_append_left _ (by assumption) | apply List.mem_cons_of_mem | apply List.mem_append_right)) | exact Sees.root (hR _ (by omega)) | exact Sees.own (RowsIn.mem (by repeat (first | exact RowsIn.here | exact RowsIn.last | apply RowsIn.there | apply RowsIn.thereS)) _ (by omega)) | exact Sees.own (WRowsIn.mem (by repeat (first | exact WRowsIn.here | exact WRowsIn.last | apply WRowsIn.there | apply WRowsIn.thereS)) _ (by omega))) rfl) ?_
            refine VL.q (.inl rfl) rfl (by decide) (yq_callf rfl known50_MeshB (.cons rfl (.cons rfl .nil)) (fun w hw => (c_eqVs (by first | exact Sees.root (by assumption) w hw | exact Sees.own (by repeat (first | exact List.mem_cons_self | exact List.mem_append_left _ (by assumption) | apply List.mem_cons_of_mem | apply List.mem_append_right)) w hw) (by first | exact Sees.root (by assumption) w hw | exact Sees.own (by repeat (first | exact List.mem_cons_self | exact List.mem_append_left _ (by assumption) | apply List.mem_cons_of_mem | apply List.mem_append_right)) w hw) (by assumption) (by assumption) (by omega)))) ?_
            refine VL.r (.inl rfl) rfl (by decide) (yr_not rfl rfl) ?_
            refine VL.nil ?_
            refine VE.then_wp ?_
            refine V.cond rfl (fun h6 => ?_) (fun h6 => ?_)
            · skip
              replace h6 := bnot_t h6
              refine V.seq ?_
              refine V.region ?_
              refine VL.r (.inl rfl) rfl (by decide) (yr_assign (u := .bool false) rfl rfl) ?_
              refine VL.nil ?_
              refine VE.then_wp ?_
              refine V.ret ?_
              refine VE.then_ret ?_
              refine ret1 rfl rfl (fun w1 hw => ?_)
              refine ⟨congrArg Value.bool ?_, hw.below⟩
              have e1 := up_beq hs hs2
              rw [← e1]
              have n1 : ∀ x y : Int, ¬ x = y → (x == y) = false := fun x y h => by simpa using h
              have n2 : ∀ x y : Int, x = y → (x == y) = true := fun x y h => by simpa using h
              first
                | (simp only [*, Bool.false_and, Bool.and_false, Bool.true_and, Bool.and_true]; done)
                | (rw [n1 _ _ (show ¬ wi = wi2 by omega)]; simp only [*, Bool.false_and, Bool.and_false, Bool.true_and, Bool.and_true]; done)
                | (rw [n1 _ _ (show ¬ hi = hi2 by omega)]; simp only [*, Bool.false_and, Bool.and_false, Bool.true_and, Bool.and_true]; done)
                | (rw [n1 _ _ (show ¬ de = de2 by omega)]; simp only [*, Bool.false_and, Bool.and_false, Bool.true_and, Bool.and_true]; done)
                | (rw [n2 _ _ (show wi = wi2 by omega), n2 _ _ (show hi = hi2 by omega), n2 _ _ (show de = de2 by omega)]
                   simp only [*, Bool.false_and, Bool.and_false, Bool.true_and, Bool.and_true]; done)
            · skip
              replace h6 := bnot_f h6
              refine V.skip ?_
              refine VE.then_wp ?_
              refine V.seq ?_
              refine V.region ?_
              refine VL.r (.inl rfl) rfl (by decide) (yr_assign (u := .bool true) rfl rfl) ?_
              refine VL.nil ?_
              refine VE.then_wp ?_
              refine V.ret ?_
              refine ret1 rfl rfl (fun w1 hw => ?_)
              refine ⟨congrArg Value.bool ?_, hw.below⟩
              have e1 := up_beq hs hs2
              rw [← e1]
              have n1 : ∀ x y : Int, ¬ x = y → (x == y) = false := fun x y h => by simpa using h
              have n2 : ∀ x y : Int, x = y → (x == y) = true := fun x y h => by simpa using h
              first
                | (simp only [*, Bool.false_and, Bool.and_false, Bool.true_and, Bool.and_true]; done)
                | (rw [n1 _ _ (show ¬ wi = wi2 by omega)]; simp only [*, Bool.false_and, Bool.and_false, Bool.true_and, Bool.and_true]; done)
                | (rw [n1 _ _ (show ¬ hi = hi2 by omega)]; simp only [*, Bool.false_and, Bool.and_false, Bool.true_and, Bool.and_true]; done)
                | (rw [n1 _ _ (show ¬ de = de2 by omega)]; simp only [*, Bool.false_and, Bool.and_false, Bool.true_and, Bool.and_true]; done)
                | (rw [n2 _ _ (show wi = wi2 by omega), n2 _ _ (show hi = hi2 by omega), n2 _ _ (show de = de2 by omega)]
                   simp only [*, Bool.false_and, Bool.and_false, Bool.true_and, Bool.and_true]; done)

end Go.Proofs.Ytnommdpgmoljcaa


namespace Go.Proofs.Ytnommdpgmoljcaa
open Go.RowKit

theorem fin_of_rng {x : Nat} (h : rng Ieee.single x < Ieee.single.infRung) : fin x = true := by
  have key : fop .sub .f32 x x = Ieee.single.word false 0 := by
    obtain ⟨m, e, h1, h2⟩ := read_number Ieee.single h
    unfold fop floatBits Ieee.Format.sub
    simp only [show FloatKind.f32.format = Ieee.single from rfl, h1, Ieee.Datum.opposite, Ieee.Datum.sum, Option.map_some, Option.getD_some, signed_val, Int.min_self, Int.sub_self]
    show Ieee.single.nearest _ _ _ = _
    have e1 : ∀ (s : Bool) (u : Int), (if s = true then -u else u) + (if (!s) = true then -u else u) = 0 := by
      intro s u; cases s <;> simp <;> omega
    rw [e1]
    simp only [if_true, Int.natAbs_zero]
    have e2 : (sgn Ieee.single x && !sgn Ieee.single x) = false := by cases sgn Ieee.single x <;> rfl
    rw [e2]
    exact nearest_units Ieee.single false (a := 0) (b := e) (Nat.zero_le _) (by omega) (by simp [(units_zero Ieee.single).2 rfl])
  unfold fin
  rw [key]
  decide
def unit3 (v : V3) : V3 := scale3 v (fop .quo .f32 1065353216 (long3 v))
def dirI (ws : List Wr) (p : V3) : V3 := unit3 (fieldI ws p)
def dirOk (ws : List Wr) (p : V3) : Bool := fin3 p && fin3 (dirI ws p)
def dirV (ws : List Wr) (p : V3) : V3 := if dirOk ws p then dirI ws p else z3
def midI (ws : List Wr) (p : V3) (st : Nat) : V3 := add3 p (scale3 (dirI ws p) (fop .mul .f32 1056964608 st))
def endI (ws : List Wr) (p : V3) (st : Nat) : V3 := add3 p (scale3 (dirI ws (midI ws p st)) st)
def stepOk (ws : List Wr) (p : V3) (st : Nat) : Bool := dirOk ws p && dirOk ws (midI ws p st) && fin3 (endI ws p st)
def stepV (ws : List Wr) (p : V3) (st : Nat) : V3 := if stepOk ws p st then endI ws p st else z3
section
variable {ws : List Wr} {p m : V3} {st : Nat}
end

/-! ### the checked step -/
section
variable {ws : List Wr} {p m : V3} {st : Nat}
end
end Go.Proofs.Ytnommdpgmoljcaa


namespace Go.Proofs.Ytnommdpgmoljcaa
open Go.RowKit

end Go.Proofs.Ytnommdpgmoljcaa


namespace Go.Proofs.Ytnommdpgmoljcaa
open Go.RowKit

/-- The double x stands for a number below 2 ^ (t + 1). -/
def small (t : Int) (x : Nat) : Prop := ∃ s m e, FloatKind.f64.decode x = .number s m e ∧ e + (m.log2 : Int) ≤ t
theorem log2_lt' {m k : Nat} (h : m < 2 ^ k) (hk : 0 < k) : m.log2 < k := by
  rcases Nat.eq_zero_or_pos m with h0 | h0
  · subst h0; simpa using hk
  · exact (Nat.log2_lt (by omega)).2 h
theorem lt_log2 (m : Nat) : m < 2 ^ (m.log2 + 1) := Nat.lt_log2_self
theorem log2_mono {a b : Nat} (h : a ≤ b) : a.log2 ≤ b.log2 := by
  rcases Nat.eq_zero_or_pos a with h0 | h0
  · subst h0; simp
  · have := Nat.log2_self_le (n := a) (by omega)
    have h2 : 2 ^ a.log2 < 2 ^ (b.log2 + 1) := Nat.lt_of_le_of_lt this (Nat.lt_of_le_of_lt h (lt_log2 b))
    have := (Nat.pow_lt_pow_iff_right (a := 2) (by decide)).1 h2
    omega
theorem small_encode (s : Bool) {m : Nat} {e : Int} {t : Nat} (h : e + (m.log2 : Int) ≤ t) (ht : t ≤ 60) : small (t + 2) (FloatKind.f64.encode (.number s m e)) := by
  obtain ⟨m', e', g1, g2⟩ := encode_small s (m := m) (e := e) (t := t + 1022) (by omega) (by omega)
  exact ⟨s, m', e', g1, by omega⟩
theorem small_quo {a b : Nat} {sa sb : Bool} {m n i j : Nat} (ha : Ieee.double.read a = .number sa m (-1074 + (i : Int))) (hb : Ieee.double.read b = .number sb n (-1074 + (j : Int))) (hn : n ≠ 0) (h : i + m.log2 ≤ j + n.log2) : small 2 (fop .quo .f64 a b) := by
  have e : fop .quo .f64 a b = ((((Ieee.double.read a).quotient 54 (Ieee.double.read b)).map Ieee.double.write).getD (qn .f64)) := rfl
  rw [e, ha, hb]
  simp only [Ieee.Datum.quotient, if_neg hn, Option.map_some, Option.getD_some]
  refine small_encode (t := 0) (sa ^^ sb) ?_ (by omega)
  generalize hM : 54 + n.log2 - m.log2 = more
  have hK : (m <<< more) / n < 2 ^ (more + m.log2 + 1 - n.log2) := by
    rw [shl_eq]
    have h1 : m * 2 ^ more < 2 ^ (more + m.log2 + 1) := by
      have := Nat.mul_lt_mul_of_pos_right (lt_log2 m) (pow_pos' more)
      rw [← Nat.pow_add] at this
      rwa [show more + m.log2 + 1 = m.log2 + 1 + more by omega]
    have h2 : 2 ^ (more + m.log2 + 1) = 2 ^ (more + m.log2 + 1 - n.log2) * 2 ^ n.log2 := by rw [← Nat.pow_add]; congr 1; omega
    have h3 : 2 ^ n.log2 ≤ n := Nat.log2_self_le hn
    rw [Nat.div_lt_iff_lt_mul (by omega)]
    rw [h2] at h1
    exact Nat.lt_of_lt_of_le h1 (Nat.mul_le_mul_left _ h3)
  generalize (m <<< more) / n = q at hK
  have hmag : (2 * q + ((m <<< more) % n != 0).toNat).log2 < more + m.log2 + 1 - n.log2 + 1 := by
    refine log2_lt' ?_ (by omega)
    rw [Nat.pow_succ]
    have : ((m <<< more) % n != 0).toNat ≤ 1 := Bool.toNat_le _
    omega
  omega
theorem small_mul {a b : Nat} {t u : Nat} (ha : small t a) (hb : small u b) (htu : t + u + 1 ≤ 60) : small (t + u + 1 + 2) (fop .mul .f64 a b) := by
  obtain ⟨s, m, e, h1, h2⟩ := ha
  obtain ⟨s', m', e', h3, h4⟩ := hb
  have ex : fop .mul .f64 a b = ((((Ieee.double.read a).product (Ieee.double.read b)).map Ieee.double.write).getD (qn .f64)) := rfl
  have h1' : Ieee.double.read a = .number s m e := h1
  have h3' : Ieee.double.read b = .number s' m' e' := h3
  rw [ex, h1', h3']
  simp only [Ieee.Datum.product, Option.map_some, Option.getD_some]
  have hl : (m * m').log2 ≤ m.log2 + m'.log2 + 1 := by
    have h5 : m * m' < 2 ^ (m.log2 + m'.log2 + 2) := by
      rcases Nat.eq_zero_or_pos m' with h0 | h0
      · rw [h0, Nat.mul_zero]; exact pow_pos' _
      · have := Nat.mul_lt_mul'' (lt_log2 m) (lt_log2 m')
        rw [← Nat.pow_add] at this
        rwa [show m.log2 + m'.log2 + 2 = m.log2 + 1 + (m'.log2 + 1) by omega]
    have := log2_lt' h5 (by omega)
    omega
  have := small_encode (s ^^ s') (m := m * m') (e := e + e') (t := t + u + 1) (by push_cast; omega) htu
  show small _ (FloatKind.f64.encode _)
  simpa using this
theorem small_round {a : Nat} {t : Nat} (ha : small t a) (ht : t ≤ 50) : small (t + 2 + 2) (fround a) := by
  obtain ⟨s, m, e, h1, h2⟩ := ha
  unfold fround
  rw [h1]
  simp only [Ieee.Datum.integral]
  have hc : Ieee.Toward.even.cut s (m <<< e.toNat) (-e).toNat ≤ 2 ^ (t + 1) + 1 := by
    refine Nat.le_trans (cut_le _ _ _) ?_
    refine Nat.add_le_add_right ?_ 1
    rw [shl_eq]
    have hm := lt_log2 m
    rcases Int.le_total e 0 with h | h
    · rw [show e.toNat = 0 by omega, Nat.pow_zero, Nat.mul_one]
      by_cases hd : (-e).toNat ≤ m.log2 + 2
      · rw [Nat.min_eq_left hd]
        refine Nat.div_le_of_le_mul ?_
        rw [← Nat.pow_add]
        exact Nat.le_of_lt (Nat.lt_of_lt_of_le hm (Nat.pow_le_pow_right (by decide) (by omega)))
      · rw [Nat.min_eq_right (by omega), Nat.div_eq_of_lt (Nat.lt_of_lt_of_le hm (Nat.pow_le_pow_right (by decide) (by omega)))]
        exact Nat.zero_le _
    · rw [show (-e).toNat = 0 by omega, Nat.zero_min, Nat.pow_zero, Nat.div_one]
      have := Nat.mul_lt_mul_of_pos_right hm (pow_pos' e.toNat)
      rw [← Nat.pow_add] at this
      exact Nat.le_of_lt (Nat.lt_of_lt_of_le this (Nat.pow_le_pow_right (by decide) (by omega)))
  have hl : (Ieee.Toward.even.cut s (m <<< e.toNat) (-e).toNat).log2 ≤ t + 2 := by
    have h5 : Ieee.Toward.even.cut s (m <<< e.toNat) (-e).toNat < 2 ^ (t + 3) := by
      have h6 : 2 ^ (t + 3) = 2 ^ (t + 1) * 4 := by rw [show t + 3 = t + 1 + 2 by omega, Nat.pow_add]
      have := pow_pos' (t + 1)
      omega
    have := log2_lt' h5 (by omega)
    omega
  have := small_encode s (m := Ieee.Toward.even.cut s (m <<< e.toNat) (-e).toNat) (e := 0) (t := t + 2) (by omega) (by omega)
  simpa using this
theorem small_int {a : Nat} {t : Nat} (ha : small t a) (ht : t ≤ 60) : ∃ i, floatToIntVal .f64 a .i64 = some i := by
  obtain ⟨s, m, e, h1, h2⟩ := ha
  unfold floatToIntVal
  rw [h1]
  simp only [Ieee.Datum.toInt, Ieee.Datum.integral]
  have hcut : Ieee.Toward.zero.cut s (m <<< e.toNat) (-e).toNat ≤ 2 ^ 61 := by
    have hz : Ieee.Toward.zero.cut s (m <<< e.toNat) (-e).toNat ≤ (m <<< e.toNat) / 2 ^ (-e).toNat := by
      unfold Ieee.Toward.cut
      simp only [Bool.toNat_false, Nat.add_zero, Nat.shiftLeft_eq, Nat.one_mul]
      generalize m * 2 ^ e.toNat = n
      generalize (-e).toNat = d
      by_cases h : d ≤ n.log2 + 2
      · rw [Nat.min_eq_left h]; exact Nat.le_refl _
      · rw [Nat.min_eq_right (by omega)]
        have : n / 2 ^ (n.log2 + 2) = 0 := Nat.div_eq_of_lt (Nat.lt_of_lt_of_le Nat.lt_log2_self (Nat.pow_le_pow_right (by decide) (by omega)))
        rw [this]; exact Nat.zero_le _
    refine Nat.le_trans hz ?_
    rw [shl_eq]
    have hm := lt_log2 m
    rcases Int.le_total e 0 with h | h
    · rw [show e.toNat = 0 by omega, Nat.pow_zero, Nat.mul_one]
      refine Nat.div_le_of_le_mul ?_
      rw [← Nat.pow_add]
      exact Nat.le_of_lt (Nat.lt_of_lt_of_le hm (Nat.pow_le_pow_right (by decide) (by omega)))
    · rw [show (-e).toNat = 0 by omega, Nat.pow_zero, Nat.div_one]
      have := Nat.mul_lt_mul_of_pos_right hm (pow_pos' e.toNat)
      rw [← Nat.pow_add] at this
      exact Nat.le_of_lt (Nat.lt_of_lt_of_le this (Nat.pow_le_pow_right (by decide) (by omega)))
  have hmin : IntKind.i64.min = -9223372036854775808 := by decide
  have hmax : IntKind.i64.max = 9223372036854775807 := by decide
  have h61 : (2 : Nat) ^ 61 = 2305843009213693952 := by decide
  refine ⟨_, if_pos ?_⟩
  rw [hmin, hmax]
  unfold Ieee.signed
  rw [shl_eq, Nat.pow_zero, Nat.mul_one]
  split <;> omega
/-- A number by the scale. -/
def qf (s x : Nat) : Nat := fround (fop .mul .f64 4674736138332667904 (fop .quo .f64 (up x) (up s)))
theorem qf_int {s x : Nat} (hx : rng Ieee.single x < Ieee.single.infRung) (hs : rng Ieee.single s < Ieee.single.infRung) (hs0 : rng Ieee.single s ≠ 0) (hle : units Ieee.single (rng Ieee.single x) ≤ units Ieee.single (rng Ieee.single s)) : ∃ i, floatToIntVal .f64 (qf s x) .i64 = some i := by
  obtain ⟨_, g2, g3⟩ := up_number hx
  obtain ⟨_, k2, k3⟩ := up_number hs
  obtain ⟨m, i, r1, r2⟩ := read_number Ieee.double g2
  obtain ⟨n, j, r3, r4⟩ := read_number Ieee.double k2
  have hlp : Ieee.double.leastPlace = -1074 := by decide
  rw [hlp] at r1 r3
  have hn0 : n * 2 ^ j ≠ 0 := by
    rw [r4, k3]
    exact Nat.mul_ne_zero (units_pos _ hs0) (Nat.pos_iff_ne_zero.1 upK_pos)
  have hn : n ≠ 0 := fun h => hn0 (by rw [h, Nat.zero_mul])
  have hle' : m * 2 ^ i ≤ n * 2 ^ j := by
    rw [r2, r4, g3, k3]; exact Nat.mul_le_mul_right _ hle
  have hlog : i + m.log2 ≤ j + n.log2 := by
    rcases Nat.eq_zero_or_pos m with h0 | h0
    · subst h0
      have : i = 0 := by
        -- the word of zero
        have hu : units Ieee.double (rng Ieee.double (up x)) = 0 := by rw [← r2, Nat.zero_mul]
        have hr0 := (units_zero Ieee.double).1 hu
        have hsm : Ieee.double.read (up x) = .number (sgn Ieee.double (up x)) 0 (-1074) := by
          unfold rng at hr0
          unfold Ieee.Format.read
          simp only [hr0]
          rw [if_pos (by decide), hlp]; rfl
        rw [hsm] at r1
        injection r1 with _ _ h3
        omega
      have : Nat.log2 0 = 0 := by decide
      omega
    · have := log2_mono hle'
      rw [log2_mul_pow (by omega), log2_mul_pow hn] at this
      omega
  have q1 := small_quo r1 r3 hn hlog
  have c1 : small (14 : Nat) 4674736138332667904 := ⟨false, 9006924376834048, -38, by decide, by decide⟩
  have q2 := small_mul (t := 14) (u := 2) c1 q1 (by decide)
  have q3 := small_round (t := 19) (by simpa using q2) (by decide)
  exact small_int (t := 23) (by show small _ (fround _); simpa using q3) (by decide)
end Go.Proofs.Ytnommdpgmoljcaa


namespace Go.Proofs.Ytnommdpgmoljcaa
open Go.RowKit

theorem fin_rng {x : Nat} (h : fin x = true) : rng Ieee.single x < Ieee.single.infRung := by
  rcases Nat.lt_or_ge (rng Ieee.single x) Ieee.single.infRung with hl | hl
  · exact hl
  · exfalso
    have hq : fop .sub .f32 x x = qn .f32 := by
      cases hn : fnan .f32 x
      · have hi : Ieee.single.read x = .infinity (sgn Ieee.single x) := read_inf .f32 (Nat.le_antisymm (rng_le hn) hl)
        unfold fop floatBits Ieee.Format.sub
        simp only [show FloatKind.f32.format = Ieee.single from rfl, hi]
        generalize sgn Ieee.single x = s
        cases s <;> decide
      · simp [fop, floatBits_nan_left hn]
    unfold fin at h
    rw [hq] at h
    revert h
    decide
theorem fin_nan {x : Nat} (h : fin x = true) : fnan .f32 x = false := by
  rw [fnan_rng]
  have := fin_rng h
  exact decide_eq_false (by show ¬ Ieee.single.infRung < rng Ieee.single x; omega)
theorem xor_top {n r : Nat} (h : r < 2 ^ n) : (2 ^ n + r) ^^^ 2 ^ n = r := by
  apply Nat.eq_of_testBit_eq
  intro j
  rw [Nat.testBit_xor, Nat.testBit_two_pow]
  rcases Nat.lt_trichotomy j n with hj | hj | hj
  · rw [Nat.testBit_two_pow_add_gt hj, decide_eq_false (by omega), Bool.xor_false]
  · subst hj
    rw [Nat.testBit_two_pow_add_eq, decide_eq_true rfl, Nat.testBit_lt_two_pow h]; rfl
  · have h2 : 2 ^ n + r < 2 ^ j := by
      have : 2 ^ (n + 1) ≤ 2 ^ j := Nat.pow_le_pow_right (by decide) hj
      rw [Nat.pow_succ] at this
      omega
    rw [Nat.testBit_lt_two_pow h2, decide_eq_false (by omega), Nat.testBit_lt_two_pow (by omega)]; rfl

/-- What is not below zero, a number. -/
def pos (s : Nat) : Prop := rng Ieee.single s < Ieee.single.infRung ∧ sgn Ieee.single s = false
theorem pos_0 : pos 0 := by constructor <;> decide
theorem fabs_fin {x : Nat} (h : fin x = true) : fabs .f32 x = x % Ieee.single.signWeight := by unfold fabs; rw [fin_nan h]; rfl
theorem pos_fabs {x : Nat} (h : fin x = true) : pos (fabs .f32 x) := by
  rw [fabs_fin h]
  exact ⟨by rw [rng_abs]; exact fin_rng h, sgn_abs _ _⟩
theorem rng_fabs {x : Nat} (h : fin x = true) : rng Ieee.single (fabs .f32 x) = rng Ieee.single x := by rw [fabs_fin h, rng_abs]
/-- The greater of what it was and the number without its sign. -/
def scN (s x : Nat) : Nat := if fcmp .gtr .f32 (fabs .f32 x) s then fabs .f32 x else s
theorem pos_scN {s x : Nat} (hs : pos s) (h : fin x = true) : pos (scN s x) := by unfold scN; split; exact pos_fabs h; exact hs
theorem sval_pos {s : Nat} (h : pos s) : sval Ieee.single s = (units Ieee.single (rng Ieee.single s) : Int) := by unfold sval; rw [h.2]; rfl
theorem gtr_pos {a b : Nat} (ha : rng Ieee.single a < Ieee.single.infRung) (hb : rng Ieee.single b < Ieee.single.infRung) : fcmp .gtr .f32 a b = decide (sval Ieee.single b < sval Ieee.single a) := by
  unfold fcmp
  simp only
  rw [order_number (k := .f32) ha hb, Option.some_beq_some]
  show (compare (sval Ieee.single a) (sval Ieee.single b) == .gt) = _
  by_cases h : sval Ieee.single b < sval Ieee.single a
  · rw [decide_eq_true h, beq_iff_eq]; exact Int.compare_eq_gt.2 h
  · rw [decide_eq_false h, beq_eq_false_iff_ne]; exact fun g => h (Int.compare_eq_gt.1 g)
theorem lss_pos {a b : Nat} (ha : rng Ieee.single a < Ieee.single.infRung) (hb : rng Ieee.single b < Ieee.single.infRung) : fcmp .lss .f32 a b = decide (sval Ieee.single a < sval Ieee.single b) := by
  unfold fcmp
  simp only
  rw [order_number (k := .f32) ha hb, Option.some_beq_some]
  show (compare (sval Ieee.single a) (sval Ieee.single b) == .lt) = _
  by_cases h : sval Ieee.single a < sval Ieee.single b
  · rw [decide_eq_true h, beq_iff_eq]; exact Int.compare_eq_lt.2 h
  · rw [decide_eq_false h, beq_eq_false_iff_ne]; exact fun g => h (Int.compare_eq_lt.1 g)
theorem le_scN {s x : Nat} (hs : pos s) (h : fin x = true) : units Ieee.single (rng Ieee.single s) ≤ units Ieee.single (rng Ieee.single (scN s x)) ∧ units Ieee.single (rng Ieee.single x) ≤ units Ieee.single (rng Ieee.single (scN s x)) := by
  have hp := pos_fabs h
  have hg := gtr_pos hp.1 hs.1
  rw [sval_pos hp, sval_pos hs, rng_fabs h] at hg
  unfold scN
  by_cases hlt : (units Ieee.single (rng Ieee.single s) : Int) < units Ieee.single (rng Ieee.single x)
  · rw [hg, decide_eq_true hlt, if_pos rfl, rng_fabs h]; omega
  · rw [hg, decide_eq_false hlt, if_neg (by decide)]; omega
theorem zero0 : sval Ieee.single 0 = 0 ∧ rng Ieee.single 0 < Ieee.single.infRung := by decide
/-- .. as the reference makes it -/
theorem scS_neg {x : Nat} (hx : Can .f32 x) (h : fin x = true) (h1 : fcmp .lss .f32 x 0 = true) : fneg .f32 x = fabs .f32 x := by
  rw [lss_pos (fin_rng h) zero0.2, zero0.1, decide_eq_true_eq] at h1
  have hs : sgn Ieee.single x = true := by
    cases hs : sgn Ieee.single x
    · exfalso; unfold sval at h1; rw [hs] at h1; simp only [Bool.false_eq_true, if_false] at h1; omega
    · rfl
  have hsw : Ieee.single.signWeight = 2147483648 := by decide
  have hw : x < 2 ^ 32 := hx.lt
  have hlt : 2147483648 ≤ x := by
    unfold sgn at hs
    rw [hsw, beq_iff_eq] at hs
    omega
  have e : Op.negFloat .f32 x = x % 2147483648 := by
    show x ^^^ 2 ^ 31 = _
    have := xor_top (n := 31) (r := x - 2147483648) (by omega)
    rw [show (2 : Nat) ^ 31 = 2147483648 from rfl] at this ⊢
    rw [show 2147483648 + (x - 2147483648) = x by omega] at this
    rw [this]; omega
  unfold fneg
  rw [e, fabs_fin h, hsw]
  refine cb_num ?_
  have := fnan_abs .f32 x
  rw [show FloatKind.f32.format.signWeight = 2147483648 from hsw] at this
  rw [this, fin_nan h]
theorem scS_pos {s x : Nat} (hx : Can .f32 x) (hs : pos s) (h : fin x = true) (h1 : fcmp .lss .f32 x 0 = false) : fcmp .gtr .f32 x s = fcmp .gtr .f32 (fabs .f32 x) s ∧ (fcmp .gtr .f32 x s = true → x = fabs .f32 x) := by
  rw [lss_pos (fin_rng h) zero0.2, zero0.1, decide_eq_false_iff_not] at h1
  have hp := pos_fabs h
  rw [gtr_pos (fin_rng h) hs.1, gtr_pos hp.1 hs.1, sval_pos hp, sval_pos hs, rng_fabs h]
  cases hsg : sgn Ieee.single x
  · have hv : sval Ieee.single x = (units Ieee.single (rng Ieee.single x) : Int) := sval_pos ⟨fin_rng h, hsg⟩
    rw [hv]
    refine ⟨rfl, fun _ => ?_⟩
    rw [fabs_fin h]
    have hw := word_of .f32 hx.lt
    change Ieee.single.word (sgn Ieee.single x) (rng Ieee.single x) = x at hw
    rw [hsg] at hw
    exact hw.symm
  · have hv : sval Ieee.single x = -(units Ieee.single (rng Ieee.single x) : Int) := by unfold sval; rw [hsg]; rfl
    rw [hv] at h1 ⊢
    have h0 : units Ieee.single (rng Ieee.single x) = 0 := by omega
    rw [h0]
    have : ¬ ((units Ieee.single (rng Ieee.single s) : Int) < -((0 : Nat) : Int)) := by omega
    have h2 : ¬ ((units Ieee.single (rng Ieee.single s) : Int) < ((0 : Nat) : Int)) := by omega
    rw [decide_eq_false this, decide_eq_false h2]
    exact ⟨rfl, fun h => by cases h⟩
section
variable {P : Program} {E : Env} {o : Oper}
/-- the absolute value, narrowed -/
theorem yr_absdn {src dst : TypeId} {x : Operand} {b : Nat} (ho : o.op = .convert src dst x) (hs : P.underlying src = some (.float .f64)) (hd : P.underlying dst = some (.float .f32)) (hx : E.opd x = some (.float .f64 (fabs .f64 (fconv .f32 .f64 b)))) : YR P E o (.float .f32 (fabs .f32 b)) := by
  have h := yr_fconv (P := P) ho hs hd (by decide) hx (abs_down b).2
  rwa [(abs_down b).1] at h
/-- max of two numbers that are not below zero -/
theorem yr_maxS {x y : Operand} {t s : TypeId} {a b : Nat} (ho : o.op = .call ⟨.builtin .max, #[x, y], #[t, s]⟩) (hx : E.opd x = some (.float .f32 a)) (hy : E.opd y = some (.float .f32 (fabs .f32 b))) (ha : pos a) (hb : fin b = true) : YR P E o (.float .f32 (scN a b)) := yr_of fun ρ w hE => by
  obtain ⟨a', g1, g2⟩ := cn_float (hE.get (x := x) (by simp [ho, Op.operands, Call.operands]) hx)
  obtain ⟨b', k1, k2⟩ := cn_float (hE.get (x := y) (by simp [ho, Op.operands, Call.operands]) hy)
  have hp := pos_fabs hb
  have na : ∀ z, rng Ieee.single z < Ieee.single.infRung → fnan .f32 z = false := fun z hz => by
    rw [fnan_rng]; exact decide_eq_false (by show ¬ Ieee.single.infRung < rng Ieee.single z; omega)
  have ea : a' = a := by
    have : fnan .f32 a' = false := by rw [← fnan_cb, g2]; exact na _ ha.1
    rw [← g2, cb_num this]
  have eb : b' = fabs .f32 b := by
    have : fnan .f32 b' = false := by rw [← fnan_cb, k2]; exact na _ hp.1
    rw [← k2, cb_num this]
  subst ea
  subst eb
  have hg := gtr_pos hp.1 ha.1
  have hord : FloatKind.f32.format.order a' (fabs .f32 b) = some (compare (sval Ieee.single a') (sval Ieee.single (fabs .f32 b))) := order_number (k := .f32) ha.1 hp.1
  have hneg : (FloatKind.f32.decode a').neg = false := by
    obtain ⟨m, e, h1, _⟩ := read_number Ieee.single ha.1
    unfold FloatKind.decode
    rw [show FloatKind.f32.format.read a' = _ from h1]
    exact ha.2
  have hmax : (Builtin.max2 (.float .f32 a') (.float .f32 (fabs .f32 b))).run P w = .ok (.float .f32 (scN a' b)) w := by
    unfold Builtin.max2 scN
    rw [hg]
    simp only [hord]
    rcases Int.lt_trichotomy (sval Ieee.single a') (sval Ieee.single (fabs .f32 b)) with h | h | h
    · rw [Int.compare_eq_lt.2 h, decide_eq_true h]; rfl
    · rw [compare_eq.2 h, decide_eq_false (by omega)]
      simp [hneg]
    · rw [Int.compare_eq_gt.2 h, decide_eq_false (by omega)]; rfl
  refine ⟨.float .f32 (scN a' b), ?_, ?_⟩
  · simp [execOp, ho, g1, k1, resolve, invoke, builtin, Builtin.max_, hmax]
  · simp only [cn, cn1, cn0]
    rw [cb_num (na _ (pos_scN ha hb).1)]
end
end Go.Proofs.Ytnommdpgmoljcaa


namespace Go.Proofs.Ytnommdpgmoljcaa
open Go.RowKit

/-! ### bytes -/
def w8 (i : Int) : Int := IntKind.u8.wrap i
theorem w8_mod (i : Int) : w8 i = i % 256 := by
  unfold w8 IntKind.wrap
  simp [IntKind.signed, IntKind.bits]
theorem and255 (q : Int) : IntKind.i64.wrap (((q % 2 ^ IntKind.i64.bits).toNat &&& ((255 : Int) % 2 ^ IntKind.i64.bits).toNat : Nat) : Int) = q % 256 := by
  have e1 : ((255 : Int) % 2 ^ IntKind.i64.bits).toNat = 2 ^ 8 - 1 := by decide
  have e2 : (2 : Int) ^ IntKind.i64.bits = 18446744073709551616 := by decide
  rw [e1, Nat.and_two_pow_sub_one_eq_mod, e2]
  have e3 : (((q % 18446744073709551616).toNat % 2 ^ 8 : Nat) : Int) = q % 256 := by
    rw [show (2 : Nat) ^ 8 = 256 from rfl]; omega
  rw [e3]
  exact wrap_in (by omega)
theorem w8_255 (q : Int) : w8 (q % 256) = w8 q := by rw [w8_mod, w8_mod]; omega
theorem shr8 (x k : Nat) (b : Nat) (hb : b ≤ 64) (hk : k = x / 2 ^ b) : ((x : Nat) : Int).fdiv (2 ^ (min b IntKind.i64.bits)) = (k : Int) := by
  subst hk
  rw [show IntKind.i64.bits = 64 from rfl, Nat.min_eq_left hb, Int.fdiv_eq_ediv_of_nonneg _ (by exact_mod_cast Nat.zero_le _)]
  norm_cast
def four (x : Nat) : List Int := [w8 (x : Int), w8 ((x / 256 : Nat) : Int), w8 ((x / 65536 : Nat) : Int), w8 ((x / 16777216 : Nat) : Int)]
def fourK (x k : Nat) : List Int := (List.range k).map fun i => w8 ((x / 256 ^ i : Nat) : Int)
theorem fourK_length (x k : Nat) : (fourK x k).length = k := by simp [fourK]
theorem fourK_succ (x k : Nat) : fourK x k ++ [w8 ((x / 256 ^ k : Nat) : Int)] = fourK x (k + 1) := by unfold fourK; rw [List.range_succ]; simp
theorem fourK_all (x : Nat) : fourK x 4 = four x := by
  unfold fourK four
  simp [List.range_succ]
theorem four_next (x k : Nat) : x / 256 ^ (k + 1) = x / 256 ^ k / 2 ^ 8 := by rw [Nat.pow_succ, Nat.div_div_eq_div_mul]
theorem bl_snoc (bs : List Int) (x k : Nat) : bl (bs ++ fourK x k) ++ [.int .u8 (w8 ((x / 256 ^ k : Nat) : Int))] = bl (bs ++ fourK x (k + 1)) := by
  rw [← fourK_succ, ← List.append_assoc]; simp [bl]

/-! ### the text of a mesh -/
def num (vs : List V3) (k : Nat) : Nat := if k % 3 = 0 then (vs.getD (k / 3) z3).1 else if k % 3 = 1 then (vs.getD (k / 3) z3).2.1 else (vs.getD (k / 3) z3).2.2
def scU (vs : List V3) : Nat → Nat
  | 0 => 0
  | k + 1 => scN (scU vs k) (num vs k)
def allF (vs : List V3) : Nat → Bool
  | 0 => true
  | k + 1 => allF vs k && fin (num vs k)
def qI (s x : Nat) : Int := (floatToIntVal .f64 (qf s x) .i64).getD 0
def qz (s x : Nat) : Int := if fcmp .gtr .f32 s 0 then qI s x else 0
def bodyU (vs : List V3) (s : Nat) : Nat → List Int
  | 0 => []
  | k + 1 => bodyU vs s k ++ [w8 (qz s (num vs k)), w8 ((qz s (num vs k)).fdiv 256)]
def topL (f : V3) (st : Nat) (wi hi de : Int) (s : Nat) : List Int := [77, 83, 72, 49] ++ [w8 wi, w8 hi, w8 de] ++ four f.1 ++ four f.2.1 ++ four f.2.2 ++ four st ++ four s
def pkL (f : V3) (st : Nat) (wi hi de : Int) (vs : List V3) : List Int := topL f st wi hi de (scU vs (vs.length * 3)) ++ bodyU vs (scU vs (vs.length * 3)) (vs.length * 3)
section
variable {vs : List V3} {k j s : Nat}
theorem num_0 (i : Nat) : num vs (i * 3) = (vs.getD i z3).1 := by unfold num; rw [if_pos (by omega), show i * 3 / 3 = i by omega]
theorem num_1 (i : Nat) : num vs (i * 3 + 1) = (vs.getD i z3).2.1 := by unfold num; rw [if_neg (by omega), if_pos (by omega), show (i * 3 + 1) / 3 = i by omega]
theorem num_2 (i : Nat) : num vs (i * 3 + 2) = (vs.getD i z3).2.2 := by unfold num; rw [if_neg (by omega), if_neg (by omega), show (i * 3 + 2) / 3 = i by omega]
def part3 (v : V3) (j : Nat) : Nat := if j = 0 then v.1 else if j = 1 then v.2.1 else v.2.2
theorem num_part {i j : Nat} (hj : j < 3) : num vs (i * 3 + j) = part3 (vs.getD i z3) j := by
  unfold num part3
  rw [show (i * 3 + j) / 3 = i by omega, show (i * 3 + j) % 3 = j by omega]
theorem nums_get {v : V3} {j : Nat} (hj : j < 3) : [v.1, v.2.1, v.2.2].getD j 0 = part3 v j := by
  have : j = 0 ∨ j = 1 ∨ j = 2 := by omega
  rcases this with rfl | rfl | rfl <;> rfl
theorem allF_pos : allF vs k = true → pos (scU vs k) := by
  induction k with
  | zero => intro _; exact pos_0
  | succ k ih => intro h; rw [allF, Bool.and_eq_true] at h; exact pos_scN (ih h.1) h.2
theorem allF_le : allF vs k = true → ∀ j, j < k → fin (num vs j) = true ∧ units Ieee.single (rng Ieee.single (num vs j)) ≤ units Ieee.single (rng Ieee.single (scU vs k)) := by
  induction k with
  | zero => intro _ j hj; omega
  | succ k ih =>
    intro h j hj
    rw [allF, Bool.and_eq_true] at h
    obtain ⟨l1, l2⟩ := le_scN (allF_pos h.1) h.2
    rcases Nat.lt_or_eq_of_le (Nat.le_of_lt_succ hj) with hj | rfl
    · obtain ⟨g1, g2⟩ := ih h.1 j hj
      exact ⟨g1, Nat.le_trans g2 l1⟩
    · exact ⟨h.2, l2⟩
theorem allF_no : allF vs k = true → fin (num vs k) = false → k < j → allF vs j = false := by
  intro h1 h2 hj
  induction j with
  | zero => omega
  | succ j ih =>
    rw [allF]
    rcases Nat.lt_or_eq_of_le (Nat.le_of_lt_succ hj) with hj | rfl
    · rw [ih hj]; rfl
    · rw [h2, Bool.and_false]
theorem pos_gtr (h : pos s) : fcmp .gtr .f32 s 0 = decide (rng Ieee.single s ≠ 0) := by
  rw [gtr_pos h.1 zero0.2, zero0.1, sval_pos h]
  have := units_zero Ieee.single (r := rng Ieee.single s)
  by_cases h0 : rng Ieee.single s = 0
  · rw [decide_eq_false (by rw [this.2 h0]; decide), decide_eq_false (by simpa using h0)]
  · rw [decide_eq_true h0, decide_eq_true (by
      have h1 : units Ieee.single (rng Ieee.single s) ≠ 0 := fun h => h0 (this.1 h)
      omega)]
theorem pos_neq (h : pos s) : fcmp .neq .f32 s 0 = fcmp .gtr .f32 s 0 := by
  rw [gtr_pos h.1 zero0.2, zero0.1, sval_pos h]
  unfold fcmp
  simp only
  rw [order_number (k := .f32) h.1 zero0.2]
  have e : sval FloatKind.f32.format s = (units Ieee.single (rng Ieee.single s) : Int) := sval_pos h
  rw [e, show sval FloatKind.f32.format 0 = 0 from zero0.1]
  by_cases h0 : (0 : Int) < units Ieee.single (rng Ieee.single s)
  · rw [Int.compare_eq_gt.2 h0, decide_eq_true h0]; rfl
  · rw [compare_eq.2 (by omega), decide_eq_false h0]; rfl
theorem qI_is (h : allF vs k = true) (hg : fcmp .gtr .f32 (scU vs k) 0 = true) (hj : j < k) : floatToIntVal .f64 (qf (scU vs k) (num vs j)) .i64 = some (qI (scU vs k) (num vs j)) := by
  have hp := allF_pos h
  rw [pos_gtr hp, decide_eq_true_eq] at hg
  obtain ⟨g1, g2⟩ := allF_le h j hj
  obtain ⟨i, hi⟩ := qf_int (fin_rng g1) hp.1 hg g2
  unfold qI
  rw [hi]; rfl
theorem bodyU_length (s k : Nat) : (bodyU vs s k).length = k * 2 := by
  induction k with
  | zero => rfl
  | succ k ih => rw [bodyU, List.length_append, ih]; simp; omega
end
theorem topL_length (f : V3) (st : Nat) (wi hi de : Int) (s : Nat) : (topL f st wi hi de s).length = 27 := rfl
section
variable {f : V3} {st : Nat} {wi hi de : Int} {vs : List V3}
end
/-! ### words for the walks -/
section
variable {vs : List V3} {k i j p s : Nat}
theorem num_get (hj : j < 3) : num vs (i * 3 + j) = [(vs.getD i z3).1, (vs.getD i z3).2.1, (vs.getD i z3).2.2].getD j 0 := by rw [num_part hj, nums_get hj]
theorem can_part {v : V3} (h : Can3 v) : Can .f32 (part3 v j) := by unfold part3; split; exact h.1; split; exact h.2.1; exact h.2.2
theorem scU_n1 (hk : num vs k = p) (hc : Can .f32 p) (hf : fin p = true) (h1 : fcmp .lss .f32 p 0 = true) (h2 : fcmp .gtr .f32 (fneg .f32 p) (scU vs k) = true) : fneg .f32 p = scU vs (k + 1) := by
  rw [scS_neg hc hf h1] at h2 ⊢
  rw [scU, hk, scN, if_pos h2]
theorem scU_n0 (hk : num vs k = p) (hc : Can .f32 p) (hf : fin p = true) (h1 : fcmp .lss .f32 p 0 = true) (h2 : fcmp .gtr .f32 (fneg .f32 p) (scU vs k) = false) : scU vs k = scU vs (k + 1) := by
  rw [scS_neg hc hf h1] at h2
  rw [scU, hk, scN, if_neg (by rw [h2]; decide)]
theorem scU_p1 (ha : allF vs k = true) (hk : num vs k = p) (hc : Can .f32 p) (hf : fin p = true) (h1 : fcmp .lss .f32 p 0 = false) (h2 : fcmp .gtr .f32 p (scU vs k) = true) : p = scU vs (k + 1) := by
  obtain ⟨g1, g2⟩ := scS_pos hc (allF_pos ha) hf h1
  have g3 := g2 h2
  rw [scU, hk, scN, if_pos (g1 ▸ h2)]; exact g3
theorem scU_p0 (ha : allF vs k = true) (hk : num vs k = p) (hc : Can .f32 p) (hf : fin p = true) (h1 : fcmp .lss .f32 p 0 = false) (h2 : fcmp .gtr .f32 p (scU vs k) = false) : scU vs k = scU vs (k + 1) := by
  obtain ⟨g1, _⟩ := scS_pos hc (allF_pos ha) hf h1
  rw [scU, hk, scN, if_neg (by rw [← g1, h2]; decide)]
theorem allF_0 : allF vs 0 = true := rfl
theorem scU_0 : scU vs 0 = 0 := rfl
theorem body_0 : bodyU vs s 0 = [] := rfl
theorem scU_m (hk : num vs k = p) : scN (scU vs k) p = scU vs (k + 1) := by rw [scU, hk]
theorem allF_s (ha : allF vs k = true) (hk : num vs k = p) (hf : fin p = true) : allF vs (k + 1) = true := by rw [allF, ha, hk, hf]; rfl
theorem qI_isX {N X : Nat} (h : allF vs N = true) (hg : fcmp .gtr .f32 (scU vs N) 0 = true) (hk : num vs k = X) (hj : k < N) : floatToIntVal .f64 (qf (scU vs N) X) .i64 = some (qI (scU vs N) X) := by rw [← hk]; exact qI_is h hg hj
theorem qz_y {x : Nat} (h : fcmp .gtr .f32 s 0 = true) : qz s x = qI s x := by unfold qz; rw [if_pos h]
theorem qz_n {x : Nat} (h : fcmp .gtr .f32 s 0 = false) : qz s x = 0 := by unfold qz; rw [if_neg (by rw [h]; decide)]
theorem body_s {bs : List Int} {x : Nat} {q q2 : Int} (hk : num vs k = x) (hq : qz s x = q) (h2 : q2 = q.fdiv 256) : bl (bs ++ bodyU vs s k) ++ [.int .u8 (w8 q), .int .u8 (w8 q2)] = bl (bs ++ bodyU vs s (k + 1)) := by
  subst h2
  rw [bodyU, hk, hq, ← List.append_assoc]; simp [bl]
end
def topK (f : V3) (st s k : Nat) : List Int := ([f.1, f.2.1, f.2.2, st, s].take k).flatMap four
def hdr (wi hi de : Int) : List Int := [77, 83, 72, 49] ++ [w8 wi, w8 hi, w8 de]
theorem topK_succ {f : V3} {st s k : Nat} (h : k < 5) : topK f st s (k + 1) = topK f st s k ++ four ([f.1, f.2.1, f.2.2, st, s].getD k 0) := by
  unfold topK
  have : k = 0 ∨ k = 1 ∨ k = 2 ∨ k = 3 ∨ k = 4 := by omega
  rcases this with rfl | rfl | rfl | rfl | rfl <;> simp
theorem topK_all {f : V3} {st s : Nat} {wi hi de : Int} : hdr wi hi de ++ topK f st s 5 = topL f st wi hi de s := by simp [hdr, topK, topL]
theorem topK_0 {f : V3} {st s : Nat} {wi hi de : Int} : hdr wi hi de ++ topK f st s 0 = [77, 83, 72, 49] ++ [w8 wi, w8 hi, w8 de] := rfl
theorem topK_length {f : V3} {st s k : Nat} (h : k ≤ 5) : (topK f st s k).length = k * 4 := by
  have : k = 0 ∨ k = 1 ∨ k = 2 ∨ k = 3 ∨ k = 4 ∨ k = 5 := by omega
  rcases this with rfl | rfl | rfl | rfl | rfl | rfl <;> rfl
theorem Pick.p3 {O1 O2 O F : List Ent} {e1 e2 e3 : Ent} (h1 : Rem O [e1] O1) (h2 : Rem O1 [e2] O2) (h3 : Rem O2 [e3] F) : Pick O [e1, e2, e3] F := Pick.take h1 (Pick.take h2 (Pick.take h3 .nil))
theorem can_scU {vs : List V3} : ∀ k, Can .f32 (scU vs k)
  | 0 => (show Can .f32 0 from ⟨by decide, by decide⟩)
  | k + 1 => by
    have ih := can_scU (vs := vs) k
    rw [scU, scN]; split
    · exact can_fabs _ _
    · exact ih
theorem can_top {f : V3} {st k N : Nat} {vs : List V3} (hf : Can3 f) (hs : Can .f32 st) (h : k < 5) : Can .f32 ([f.1, f.2.1, f.2.2, st, scU vs N].getD k 0) := by
  have : k = 0 ∨ k = 1 ∨ k = 2 ∨ k = 3 ∨ k = 4 := by omega
  rcases this with rfl | rfl | rfl | rfl | rfl
  · exact hf.1
  · exact hf.2.1
  · exact hf.2.2
  · exact hs
  · exact can_scU N
theorem topK_le {f : V3} {st s k : Nat} {wi hi de : Int} (h : k ≤ 5) : (hdr wi hi de ++ topK f st s k).length ≤ 100000 := by
  rw [List.length_append, topK_length h]; simp [hdr]; omega
theorem bd_len {f : V3} {st s k : Nat} {wi hi de : Int} {vs : List V3} : (topL f st wi hi de s ++ bodyU vs s k).length = 27 + k * 2 := by rw [List.length_append, topL_length, bodyU_length]
theorem part_top {f : V3} {st s k : Nat} (h : k < 3) : part3 f k = [f.1, f.2.1, f.2.2, st, s].getD k 0 := by
  have : k = 0 ∨ k = 1 ∨ k = 2 := by omega
  rcases this with rfl | rfl | rfl <;> rfl
theorem top3 {f : V3} {st s : Nat} {wi hi de : Int} : hdr wi hi de ++ topK f st s 3 ++ four st ++ four s = topL f st wi hi de s := by simp [hdr, topK, topL]
end Go.Proofs.Ytnommdpgmoljcaa


namespace Go.Proofs.Ytnommdpgmoljcaa
open Go.RowKit
set_option linter.unusedVariables false
set_option linter.unusedSimpArgs false
set_option maxRecDepth 20000

theorem ext139_PkA : ExtF Try.prog 139 Extern.MathFloatBits.float32bits := ⟨_, Try.func139, by kernel_rfl, by kernel_rfl, by kernel_rfl, by kernel_rfl⟩
theorem ext129_PkA : ExtF Try.prog 129 Extern.MathFloatBits.float64bits := ⟨_, Try.func129, by kernel_rfl, by kernel_rfl, by kernel_rfl, by kernel_rfl⟩
theorem ext128_PkA : ExtF Try.prog 128 Extern.MathFloatBits.float64frombits := ⟨_, Try.func128, by kernel_rfl, by kernel_rfl, by kernel_rfl, by kernel_rfl⟩
theorem known130_PkA : Known Try.prog 130 := Known.mk' Try.func130 (by kernel_rfl)
theorem elt5_PkA : Elt Try.prog 5 [Value.int .u8 0] 1 := Elt.mk' (by kernel_rfl) (by decide)
theorem sz23_PkA : (Try.prog.info? 23).map (·.size) = some 1 := by kernel_rfl
theorem fb23_PkA : flatB Try.prog 23 = true := by kernel_rfl
theorem elt23_PkA : Elt Try.prog 23 [Value.float .f32 0] 4 := Elt.mk' (by kernel_rfl) (by decide)
theorem known138_PkA : Known Try.prog 138 := Known.mk' Try.func138 (by kernel_rfl)
theorem sz28_PkA : (Try.prog.info? 28).map (·.size) = some 1 := by kernel_rfl
theorem fb28_PkA : flatB Try.prog 28 = true := by kernel_rfl
theorem sz27_PkA : (Try.prog.info? 27).map (·.size) = some 3 := by kernel_rfl
theorem known127_PkA : Known Try.prog 127 := Known.mk' Try.func127 (by kernel_rfl)
theorem known80_PkA : Known Try.prog 80 := Known.mk' Try.func80 (by kernel_rfl)
attribute [local irreducible] fop fcmp fconv fneg fabs List.getD scN num fround qf qI

theorem c_bitsI {w : World} {x : Nat} (hx : Can .f32 x) : Pure Try.prog 130 [.float .f32 x] w (.int .i64 (x : Int)) := by
  refine Pure.enter Try.func130 rfl Try.ntmps130 (Nat.le_of_ble_eq_true rfl) ?_
  have hlt : x < 4294967296 := Nat.lt_of_lt_of_le hx.lt (by decide)
  refine V.seq ?_
  refine V.region ?_
  refine VL.r (.inl rfl) rfl (by decide) (yr_assign (u := .int .i64 0) rfl rfl) ?_
  refine VL.nil ?_
  refine VE.then_wp ?_
  refine V.seq ?_
  refine V.seq ?_
  refine V.region ?_
  refine VL.r (.inl rfl) rfl (by decide) (yr_move rfl rfl) ?_
  refine VL.r (.inl rfl) rfl (by decide) (yr_move rfl rfl) ?_
  refine VL.r (.inl rfl) rfl (by decide) (yr_fcmp rfl (.inr (.inl rfl)) rfl rfl) ?_
  refine VL.nil ?_
  refine VE.then_wp ?_
  refine V.cond rfl (fun h1 => ?_) (fun h1 => ?_)
  · skip
    rw [fne_self] at h1
    refine V.seq ?_
    refine V.region ?_
    refine VL.r (.inl rfl) rfl (by decide) (yr_assign (u := .int .i64 2143289344) rfl rfl) ?_
    refine VL.nil ?_
    refine VE.then_wp ?_
    refine V.ret ?_
    refine VE.then_ret ?_
    refine ret1 rfl rfl (fun w1 hw => ?_)
    exact ⟨by rw [hx.nan h1]; rfl, hw.below⟩
  · skip
    rw [fne_self] at h1
    refine V.skip ?_
    refine VE.then_wp ?_
    refine V.seq ?_
    refine V.region ?_
    refine VL.r (.inl rfl) rfl (by decide) (yr_move rfl rfl) ?_
    refine VL.q (.inl rfl) rfl (by decide) (yq_ext rfl ext139_PkA (.cons rfl .nil) (fun vs w h => ext_bits32 vs w (by assumption) h)) ?_
    refine VL.r (.inl rfl) rfl (by decide) (yr_intConv rfl Try.underlying117 Try.underlying2 rfl (wrap_in (by omega))) ?_
    refine VL.r (.inl rfl) rfl (by decide) (yr_assign rfl rfl) ?_
    refine VL.nil ?_
    refine VE.then_wp ?_
    refine V.ret ?_
    refine ret1 rfl rfl (fun w1 hw => ?_)
    exact ⟨rfl, hw.below⟩

theorem c_bitsS {w : World} {x : Nat} (hx : Can .f32 x) : Pure Try.prog 138 [.float .f32 x] w (.int .i64 (x : Int)) := by
  refine Pure.enter Try.func138 rfl Try.ntmps138 (Nat.le_of_ble_eq_true rfl) ?_
  have hlt : x < 4294967296 := Nat.lt_of_lt_of_le hx.lt (by decide)
  refine V.seq ?_
  refine V.region ?_
  refine VL.r (.inl rfl) rfl (by decide) (yr_assign (u := .int .i64 0) rfl rfl) ?_
  refine VL.nil ?_
  refine VE.then_wp ?_
  refine V.seq ?_
  refine V.seq ?_
  refine V.region ?_
  refine VL.r (.inl rfl) rfl (by decide) (yr_move rfl rfl) ?_
  refine VL.r (.inl rfl) rfl (by decide) (yr_move rfl rfl) ?_
  refine VL.r (.inl rfl) rfl (by decide) (yr_fcmp rfl (.inr (.inl rfl)) rfl rfl) ?_
  refine VL.nil ?_
  refine VE.then_wp ?_
  refine V.cond rfl (fun h1 => ?_) (fun h1 => ?_)
  · skip
    rw [fne_self] at h1
    refine V.seq ?_
    refine V.region ?_
    refine VL.r (.inl rfl) rfl (by decide) (yr_assign (u := .int .i64 2143289344) rfl rfl) ?_
    refine VL.nil ?_
    refine VE.then_wp ?_
    refine V.ret ?_
    refine VE.then_ret ?_
    refine ret1 rfl rfl (fun w1 hw => ?_)
    exact ⟨by rw [hx.nan h1]; rfl, hw.below⟩
  · skip
    rw [fne_self] at h1
    refine V.skip ?_
    refine VE.then_wp ?_
    refine V.seq ?_
    refine V.region ?_
    refine VL.r (.inl rfl) rfl (by decide) (yr_move rfl rfl) ?_
    refine VL.q (.inl rfl) rfl (by decide) (yq_ext rfl ext139_PkA (.cons rfl .nil) (fun vs w h => ext_bits32 vs w (by assumption) h)) ?_
    refine VL.r (.inl rfl) rfl (by decide) (yr_intConv rfl Try.underlying117 Try.underlying2 rfl (wrap_in (by omega))) ?_
    refine VL.r (.inl rfl) rfl (by decide) (yr_assign rfl rfl) ?_
    refine VL.nil ?_
    refine VE.then_wp ?_
    refine V.ret ?_
    refine ret1 rfl rfl (fun w1 hw => ?_)
    exact ⟨rfl, hw.below⟩

theorem c_absP {w : World} (x : Nat) : Pure Try.prog 98 [.float .f64 x] w (.float .f64 (fabs .f64 x)) := by
  refine Pure.enter Try.func98 rfl Try.ntmps98 (Nat.le_of_ble_eq_true rfl) ?_
  refine V.seq ?_
  refine V.region ?_
  refine VL.r (.inl rfl) rfl (by decide) (yr_assign (u := .float .f64 0) rfl rfl) ?_
  refine VL.nil ?_
  refine VE.then_wp ?_
  refine V.seq ?_
  refine V.region ?_
  refine VL.r (.inl rfl) rfl (by decide) (yr_move rfl rfl) ?_
  refine VL.new (.inl rfl) rfl (by decide) (extN rfl ext129_PkA (.cons rfl .nil) (fun vs w h => ext_bitsN h)) ?_
  rintro ⟨b4, hb4⟩
  refine VL.r (.inl rfl) rfl (by decide) (yr_andNot63 rfl rfl rfl) ?_
  refine VL.q (.inl rfl) rfl (by decide) (yq_ext rfl ext128_PkA (.cons rfl .nil) (fun vs w h => ext_from64 vs w h)) ?_
  refine VL.r (.inl rfl) rfl (by decide) (yr_assign rfl rfl) ?_
  refine VL.nil ?_
  refine VE.then_wp ?_
  refine V.ret ?_
  refine ret1 rfl rfl (fun w1 hw => ?_)
  exact ⟨congrArg (Value.float .f64) (by rw [cb_abs64, hb4]), hw.below⟩

theorem c_fourB {w0 : World} {a : Option Addr} {c x : Nat} {bs : List Int} (hx : Can .f32 x) (hn : bs.length ≤ 100000) : Mut Try.prog 99 [.slice a bs.length c, .float .f32 x] w0 [⟨a, bl bs, c * 1, 5⟩] (fun p : Option Addr × Nat => .slice p.1 (bs ++ four x).length p.2) (fun p => [⟨p.1, bl (bs ++ four x), p.2 * 1, 5⟩]) := by
  refine Mut.enter Try.func99 rfl Try.ntmps99 (Nat.le_of_ble_eq_true rfl) ?_
  intro F
  refine V.seq ?_
  refine V.region ?_
  refine VL.r (.inl rfl) rfl (by decide) (yr_assign (u := .slice none 0 0) rfl rfl) ?_
  refine VL.nil ?_
  refine VE.then_wp ?_
  refine V.seq ?_
  refine V.region ?_
  refine VL.r (.inl rfl) rfl (by decide) (yr_move rfl rfl) ?_
  refine VL.q (.inl rfl) rfl (by decide) (yq_callf rfl known130_PkA (.cons rfl .nil) (fun w hw => (c_bitsI (by assumption)))) ?_
  refine VL.r (.inl rfl) rfl (by decide) (yr_assign rfl rfl) ?_
  refine VL.nil ?_
  refine VE.then_wp ?_
  refine V.seq ?_
  refine V.seq ?_
  refine V.region ?_
  refine VL.r (.inl rfl) rfl (by decide) (yr_move (u := .int .i64 0) rfl rfl) ?_
  refine VL.nil ?_
  refine VE.then_wp ?_
  refine V.block ?_
  refine V.loopc (G := Nat × (Option Addr) × Nat) [] (fun ⟨i, ar, cr⟩ => i ≤ 4 ∧ True) (fun ⟨i, ar, cr⟩ => (F ++ [⟨ar, bl (bs ++ fourK x i), cr * 1, 5⟩])) (fun ⟨i, ar, cr⟩ => [(0, .slice ar (bs.length + i) cr), (5, .int .i64 ((x / 256 ^ i : Nat) : Int)), (8, .int .i64 (i : Int))]) (fun ⟨i, ar, cr⟩ => 4 - i) (0, a, c) .nil (.cons rfl (.cons (congrArg (fun i => some (Value.int .i64 i)) (by rw [Nat.pow_zero, Nat.div_one])) (.cons rfl .nil))) ?_ ?_ ?_
  · exact (fun w hw => by dsimp only; rw [show fourK x 0 = [] from rfl, List.append_nil]; exact hw)
  · exact (by exact ⟨Nat.zero_le _, trivial⟩)
  rintro ⟨i, ar, cr⟩ ⟨hi9, _⟩
  show V _ _ _ (F ++ [⟨ar, bl (bs ++ fourK x i), cr * 1, 5⟩]) ([(0, .slice ar (bs.length + i) cr), (5, .int .i64 ((x / 256 ^ i : Nat) : Int)), (8, .int .i64 (i : Int))] ++ []) _ _
  refine V.seq ?_
  refine V.region ?_
  refine VL.r (.inl rfl) rfl (by decide) (yr_icmp rfl (.inr (.inr (.inl rfl))) rfl rfl) ?_
  refine VL.nil ?_
  refine VE.then_wp ?_
  refine V.seq ?_
  refine V.cond rfl (fun h1 => ?_) (fun h1 => ?_)
  · skip
    replace h1 := ic_lss h1
    refine V.skip ?_
    refine VE.then_wp ?_
    refine V.seq ?_
    refine V.block ?_
    refine V.seq ?_
    refine V.region ?_
    refine VL.r (.inl rfl) rfl (by decide) (yr_move rfl rfl) ?_
    refine VL.r (.inl rfl) rfl (by decide) (yr_move rfl rfl) ?_
    refine VL.r (.inl rfl) rfl (by decide) (yr_intConv (r := w8 _) rfl Try.underlying2 Try.underlying5 rfl rfl) ?_
    refine VL.new1 (.inl rfl) rfl (by decide) (yn_lit rfl Try.underlying50 elt5_PkA rfl (by decide) (.cons rfl .nil) (by first | (simp; done) | (simp [cn, cn1, cn0]; done)) rfl rfl rfl) ?_
    intro b13
    refine VL.c (.inl rfl) rfl (by decide) (yc_appendz 1 rfl rfl Try.underlying50 elt5_PkA rfl rfl (by repeat (first | exact UpdF.here | apply UpdF.there | apply UpdF.thereS)) (by first | exact Sees.root (by assumption) | exact Sees.own (by repeat (first | exact List.mem_cons_self | exact List.mem_append_left _ (by assumption) | apply List.mem_cons_of_mem | apply List.mem_append_right)) | exact Sees.root (hR _ (by omega)) | exact Sees.own (RowsIn.mem (by repeat (first | exact RowsIn.here | exact RowsIn.last | apply RowsIn.there | apply RowsIn.thereS)) _ (by omega)) | exact Sees.own (WRowsIn.mem (by repeat (first | exact WRowsIn.here | exact WRowsIn.last | apply WRowsIn.there | apply WRowsIn.thereS)) _ (by omega))) rfl (by rw [bl_length, List.length_append, fourK_length, Nat.mul_one]) rfl (bl_scal _) rfl (by omega) (by omega)) ?_
    rintro ⟨a14, c14⟩
    refine VL.r (.inl rfl) rfl (by decide) (yr_assign rfl rfl) ?_
    refine VL.nil ?_
    refine VE.then_wp ?_
    refine V.region ?_
    refine VL.r (.inl rfl) rfl (by decide) (yr_move rfl rfl) ?_
    refine VL.r (.inl rfl) rfl (by decide) (yr_shr (b := 8) (r := ((x / 256 ^ i / 2 ^ 8 : Nat) : Int)) rfl rfl rfl (shr8 _ _ 8 (by decide) rfl)) ?_
    refine VL.r (.inl rfl) rfl (by decide) (yr_assign rfl rfl) ?_
    refine VL.nil ?_
    refine VE.block_normal ?_
    refine VE.then_wp ?_
    refine V.region ?_
    refine VL.r (.inl rfl) rfl (by decide) (yr_int rfl rfl rfl (.inl ⟨rfl, wrap_in (by omega)⟩)) ?_
    refine VL.r (.inl rfl) rfl (by decide) (yr_move rfl rfl) ?_
    refine VL.nil ?_
    refine VE.round (i + 1, a14, c14) ?_ ?_ ?_ ?_ ?_
    · exact (.cons rfl (.cons (congrArg (fun i => some (Value.int .i64 i)) (by rw [four_next])) (.cons rfl .nil)))
    · exact .nil
    · exact (fun w hw => by have h9 := hw.sub (List.sublist_cons_self _ _); dsimp only; rw [← bl_snoc]; exact h9)
    · exact ⟨by omega, trivial⟩
    · (try dsimp only); omega
  · skip
    replace h1 := ic_lss' h1
    refine V.exit ?_
    refine VE.then_exit ?_
    refine VE.then_exit ?_
    refine VE.block_here ?_
    refine VE.then_wp ?_
    refine V.seq ?_
    refine V.region ?_
    refine VL.r (.inl rfl) rfl (by decide) (yr_move rfl rfl) ?_
    refine VL.r (.inl rfl) rfl (by decide) (yr_assign rfl rfl) ?_
    refine VL.nil ?_
    refine VE.then_wp ?_
    refine V.ret ?_
    refine ret1 rfl rfl (fun w1 hw => ?_)
    obtain rfl : i = 4 := by omega
    rw [fourK_all] at hw
    exact ⟨(ar, cr), by rw [List.length_append]; rfl, hw⟩

theorem c_nums {w : World} {x1 x2 x3 : Nat} : New Try.prog 96 [vv (x1, x2, x3)] w (fun p : Nat => .slice (some ⟨p, 0, none⟩) 3 3) (fun p => [⟨some ⟨p, 0, none⟩, fl [x1, x2, x3], 3 * 1, 23⟩]) := by
  refine New.enter Try.func96 rfl Try.ntmps96 (Nat.le_of_ble_eq_true rfl) ?_
  refine V.seq ?_
  refine V.region ?_
  refine VL.new1 (.inl rfl) rfl (by decide) (yn_box rfl rfl (.inr ⟨rfl, rfl⟩)) ?_
  intro b1
  refine VL.r (.inl rfl) rfl (by decide) (yr_assign (u := .slice none 0 0) rfl rfl) ?_
  refine VL.nil ?_
  refine VE.then_wp ?_
  refine V.seq ?_
  refine V.region ?_
  refine VL.r (.inl rfl) rfl (by decide) (yr_fieldAddr rfl Try.underlying27 rfl rfl sz23_PkA (by decide) rfl) ?_
  refine VL.q (.inl rfl) rfl (by decide) (yq_load rfl fb23_PkA rfl (by first | exact Sees.root (by assumption) | exact Sees.own (by repeat (first | exact List.mem_cons_self | exact List.mem_append_left _ (by assumption) | apply List.mem_cons_of_mem | apply List.mem_append_right)) | exact Sees.root (hR _ (by omega)) | exact Sees.own (RowsIn.mem (by repeat (first | exact RowsIn.here | exact RowsIn.last | apply RowsIn.there | apply RowsIn.thereS)) _ (by omega)) | exact Sees.own (WRowsIn.mem (by repeat (first | exact WRowsIn.here | exact WRowsIn.last | apply WRowsIn.there | apply WRowsIn.thereS)) _ (by omega))) rfl) ?_
  refine VL.r (.inl rfl) rfl (by decide) (yr_fieldAddr rfl Try.underlying27 rfl rfl sz23_PkA (by decide) rfl) ?_
  refine VL.q (.inl rfl) rfl (by decide) (yq_load rfl fb23_PkA rfl (by first | exact Sees.root (by assumption) | exact Sees.own (by repeat (first | exact List.mem_cons_self | exact List.mem_append_left _ (by assumption) | apply List.mem_cons_of_mem | apply List.mem_append_right)) | exact Sees.root (hR _ (by omega)) | exact Sees.own (RowsIn.mem (by repeat (first | exact RowsIn.here | exact RowsIn.last | apply RowsIn.there | apply RowsIn.thereS)) _ (by omega)) | exact Sees.own (WRowsIn.mem (by repeat (first | exact WRowsIn.here | exact WRowsIn.last | apply WRowsIn.there | apply WRowsIn.thereS)) _ (by omega))) rfl) ?_
  refine VL.r (.inl rfl) rfl (by decide) (yr_fieldAddr rfl Try.underlying27 rfl rfl sz23_PkA (by decide) rfl) ?_
  refine VL.q (.inl rfl) rfl (by decide) (yq_load rfl fb23_PkA rfl (by first | exact Sees.root (by assumption) | exact Sees.own (by repeat (first | exact List.mem_cons_self | exact List.mem_append_left _ (by assumption) | apply List.mem_cons_of_mem | apply List.mem_append_right)) | exact Sees.root (hR _ (by omega)) | exact Sees.own (RowsIn.mem (by repeat (first | exact RowsIn.here | exact RowsIn.last | apply RowsIn.there | apply RowsIn.thereS)) _ (by omega)) | exact Sees.own (WRowsIn.mem (by repeat (first | exact WRowsIn.here | exact WRowsIn.last | apply WRowsIn.there | apply WRowsIn.thereS)) _ (by omega))) rfl) ?_
  refine VL.new1 (.inl rfl) rfl (by decide) (yn_lit rfl Try.underlying86 elt23_PkA rfl (by decide) (.cons rfl (.cons rfl (.cons rfl .nil))) (by first | (simp; done) | (simp [cn, cn1, cn0]; done)) rfl rfl rfl) ?_
  intro b9
  refine VL.r (.inl rfl) rfl (by decide) (yr_assign rfl rfl) ?_
  refine VL.nil ?_
  refine VE.then_wp ?_
  refine V.ret ?_
  refine ret1 rfl rfl (fun w1 hw => ?_)
  exact ⟨b9, rfl, hw.out1⟩

theorem c_part {w : World} {x1 x2 x3 : Nat} {j : Nat} (hj : j < 3) : Pure Try.prog 127 [vv (x1, x2, x3), .int .i64 (j : Int)] w (.float .f32 (part3 (x1, x2, x3) j)) := by
  refine Pure.enter Try.func127 rfl Try.ntmps127 (Nat.le_of_ble_eq_true rfl) ?_
  refine V.seq ?_
  refine V.region ?_
  refine VL.new1 (.inl rfl) rfl (by decide) (yn_box rfl rfl (.inr ⟨rfl, rfl⟩)) ?_
  intro b2
  refine VL.r (.inl rfl) rfl (by decide) (yr_assign (u := .float .f32 0) rfl rfl) ?_
  refine VL.nil ?_
  refine VE.then_wp ?_
  refine V.seq ?_
  refine V.seq ?_
  refine V.region ?_
  refine VL.r (.inl rfl) rfl (by decide) (yr_move rfl rfl) ?_
  refine VL.nil ?_
  refine VE.then_wp ?_
  refine V.block ?_
  refine V.seq ?_
  refine V.region ?_
  refine VL.r (.inl rfl) rfl (by decide) (yr_icmp rfl (.inl rfl) rfl rfl) ?_
  refine VL.r (.inl rfl) rfl (by decide) (yr_assign rfl rfl) ?_
  refine VL.nil ?_
  refine VE.then_wp ?_
  refine V.cond rfl (fun h1 => ?_) (fun h1 => ?_)
  · skip
    replace h1 := ic_eql h1
    refine V.seq ?_
    refine V.region ?_
    refine VL.r (.inl rfl) rfl (by decide) (yr_fieldAddr rfl Try.underlying27 rfl rfl sz23_PkA (by decide) rfl) ?_
    refine VL.q (.inl rfl) rfl (by decide) (yq_load rfl fb23_PkA rfl (by first | exact Sees.root (by assumption) | exact Sees.own (by repeat (first | exact List.mem_cons_self | exact List.mem_append_left _ (by assumption) | apply List.mem_cons_of_mem | apply List.mem_append_right)) | exact Sees.root (hR _ (by omega)) | exact Sees.own (RowsIn.mem (by repeat (first | exact RowsIn.here | exact RowsIn.last | apply RowsIn.there | apply RowsIn.thereS)) _ (by omega)) | exact Sees.own (WRowsIn.mem (by repeat (first | exact WRowsIn.here | exact WRowsIn.last | apply WRowsIn.there | apply WRowsIn.thereS)) _ (by omega))) rfl) ?_
    refine VL.r (.inl rfl) rfl (by decide) (yr_assign rfl rfl) ?_
    refine VL.nil ?_
    refine VE.then_wp ?_
    refine V.ret ?_
    refine VE.block_ret ?_
    refine VE.then_ret ?_
    refine ret1 rfl rfl (fun w1 hw => ?_)
    first
      | (obtain rfl : j = 0 := by omega
         exact ⟨rfl, hw.below⟩)
      | (obtain rfl : j = 1 := by omega
         exact ⟨rfl, hw.below⟩)
      | (obtain rfl : j = 2 := by omega
         exact ⟨rfl, hw.below⟩)
  · skip
    replace h1 := ic_eql' h1
    refine V.seq ?_
    refine V.region ?_
    refine VL.r (.inl rfl) rfl (by decide) (yr_icmp rfl (.inl rfl) rfl rfl) ?_
    refine VL.r (.inl rfl) rfl (by decide) (yr_assign rfl rfl) ?_
    refine VL.nil ?_
    refine VE.then_wp ?_
    refine V.cond rfl (fun h2 => ?_) (fun h2 => ?_)
    · skip
      replace h2 := ic_eql h2
      refine V.seq ?_
      refine V.region ?_
      refine VL.r (.inl rfl) rfl (by decide) (yr_fieldAddr rfl Try.underlying27 rfl rfl sz23_PkA (by decide) rfl) ?_
      refine VL.q (.inl rfl) rfl (by decide) (yq_load rfl fb23_PkA rfl (by first | exact Sees.root (by assumption) | exact Sees.own (by repeat (first | exact List.mem_cons_self | exact List.mem_append_left _ (by assumption) | apply List.mem_cons_of_mem | apply List.mem_append_right)) | exact Sees.root (hR _ (by omega)) | exact Sees.own (RowsIn.mem (by repeat (first | exact RowsIn.here | exact RowsIn.last | apply RowsIn.there | apply RowsIn.thereS)) _ (by omega)) | exact Sees.own (WRowsIn.mem (by repeat (first | exact WRowsIn.here | exact WRowsIn.last | apply WRowsIn.there | apply WRowsIn.thereS)) _ (by omega))) rfl) ?_
      refine VL.r (.inl rfl) rfl (by decide) (yr_assign rfl rfl) ?_
      refine VL.nil ?_
      refine VE.then_wp ?_
      refine V.ret ?_
      refine VE.block_ret ?_
      refine VE.then_ret ?_
      refine ret1 rfl rfl (fun w1 hw => ?_)
      first
        | (obtain rfl : j = 0 := by omega
           exact ⟨rfl, hw.below⟩)
        | (obtain rfl : j = 1 := by omega
           exact ⟨rfl, hw.below⟩)
        | (obtain rfl : j = 2 := by omega
           exact ⟨rfl, hw.below⟩)
    · skip
      replace h2 := ic_eql' h2
      refine V.skip ?_
      refine VE.block_normal ?_
      refine VE.then_wp ?_
      refine V.seq ?_
      refine V.region ?_
      refine VL.r (.inl rfl) rfl (by decide) (yr_fieldAddr rfl Try.underlying27 rfl rfl sz23_PkA (by decide) rfl) ?_
      refine VL.q (.inl rfl) rfl (by decide) (yq_load rfl fb23_PkA rfl (by first | exact Sees.root (by assumption) | exact Sees.own (by repeat (first | exact List.mem_cons_self | exact List.mem_append_left _ (by assumption) | apply List.mem_cons_of_mem | apply List.mem_append_right)) | exact Sees.root (hR _ (by omega)) | exact Sees.own (RowsIn.mem (by repeat (first | exact RowsIn.here | exact RowsIn.last | apply RowsIn.there | apply RowsIn.thereS)) _ (by omega)) | exact Sees.own (WRowsIn.mem (by repeat (first | exact WRowsIn.here | exact WRowsIn.last | apply WRowsIn.there | apply WRowsIn.thereS)) _ (by omega))) rfl) ?_
      refine VL.r (.inl rfl) rfl (by decide) (yr_assign rfl rfl) ?_
      refine VL.nil ?_
      refine VE.then_wp ?_
      refine V.ret ?_
      refine ret1 rfl rfl (fun w1 hw => ?_)
      first
        | (obtain rfl : j = 0 := by omega
           exact ⟨rfl, hw.below⟩)
        | (obtain rfl : j = 1 := by omega
           exact ⟨rfl, hw.below⟩)
        | (obtain rfl : j = 2 := by omega
           exact ⟨rfl, hw.below⟩)

theorem c_four {w : World} {x : Nat} (hx : Can .f32 x) : New Try.prog 126 [.float .f32 x] w (fun p : Nat => .slice (some ⟨p, 0, none⟩) 4 4) (fun p => [⟨some ⟨p, 0, none⟩, bl (four x), 4 * 1, 5⟩]) := by
  refine New.enter Try.func126 rfl Try.ntmps126 (Nat.le_of_ble_eq_true rfl) ?_
  refine V.seq ?_
  refine V.region ?_
  refine VL.r (.inl rfl) rfl (by decide) (yr_assign (u := .slice none 0 0) rfl rfl) ?_
  refine VL.nil ?_
  refine VE.then_wp ?_
  refine V.seq ?_
  refine V.region ?_
  refine VL.r (.inl rfl) rfl (by decide) (yr_move rfl rfl) ?_
  refine VL.q (.inl rfl) rfl (by decide) (yq_callf rfl known138_PkA (.cons rfl .nil) (fun w hw => (c_bitsS (by assumption)))) ?_
  refine VL.r (.inl rfl) rfl (by decide) (yr_assign rfl rfl) ?_
  refine VL.nil ?_
  refine VE.then_wp ?_
  refine V.seq ?_
  refine V.region ?_
  refine VL.r (.inl rfl) rfl (by decide) (yr_move rfl rfl) ?_
  refine VL.r (.inl rfl) rfl (by decide) (yr_bits rfl rfl rfl (.inl ⟨rfl, and255 _⟩)) ?_
  refine VL.r (.inl rfl) rfl (by decide) (yr_intConv (r := w8 (x : Int)) rfl Try.underlying2 Try.underlying5 rfl (w8_255 _)) ?_
  refine VL.r (.inl rfl) rfl (by decide) (yr_move rfl rfl) ?_
  refine VL.r (.inl rfl) rfl (by decide) (yr_shr (b := 8) (r := ((x / 256 : Nat) : Int)) rfl rfl rfl (shr8 x _ 8 (by decide) rfl)) ?_
  refine VL.r (.inl rfl) rfl (by decide) (yr_bits rfl rfl rfl (.inl ⟨rfl, and255 _⟩)) ?_
  refine VL.r (.inl rfl) rfl (by decide) (yr_intConv (r := w8 ((x / 256 : Nat) : Int)) rfl Try.underlying2 Try.underlying5 rfl (w8_255 _)) ?_
  refine VL.r (.inl rfl) rfl (by decide) (yr_move rfl rfl) ?_
  refine VL.r (.inl rfl) rfl (by decide) (yr_shr (b := 16) (r := ((x / 65536 : Nat) : Int)) rfl rfl rfl (shr8 x _ 16 (by decide) rfl)) ?_
  refine VL.r (.inl rfl) rfl (by decide) (yr_bits rfl rfl rfl (.inl ⟨rfl, and255 _⟩)) ?_
  refine VL.r (.inl rfl) rfl (by decide) (yr_intConv (r := w8 ((x / 65536 : Nat) : Int)) rfl Try.underlying2 Try.underlying5 rfl (w8_255 _)) ?_
  refine VL.r (.inl rfl) rfl (by decide) (yr_move rfl rfl) ?_
  refine VL.r (.inl rfl) rfl (by decide) (yr_shr (b := 24) (r := ((x / 16777216 : Nat) : Int)) rfl rfl rfl (shr8 x _ 24 (by decide) rfl)) ?_
  refine VL.r (.inl rfl) rfl (by decide) (yr_bits rfl rfl rfl (.inl ⟨rfl, and255 _⟩)) ?_
  refine VL.r (.inl rfl) rfl (by decide) (yr_intConv (r := w8 ((x / 16777216 : Nat) : Int)) rfl Try.underlying2 Try.underlying5 rfl (w8_255 _)) ?_
  refine VL.new1 (.inl rfl) rfl (by decide) (yn_lit rfl Try.underlying50 elt5_PkA rfl (by decide) (.cons rfl (.cons rfl (.cons rfl (.cons rfl .nil)))) (by first | (simp; done) | (simp [cn, cn1, cn0]; done)) rfl rfl rfl) ?_
  intro b21
  refine VL.r (.inl rfl) rfl (by decide) (yr_assign rfl rfl) ?_
  refine VL.nil ?_
  refine VE.then_wp ?_
  refine V.ret ?_
  refine ret1 rfl rfl (fun w1 hw => ?_)
  exact ⟨b21, rfl, hw.out1⟩

theorem c_scale {w : World} {q : Option Addr} {f1 f2 f3 st : Nat} {wi hi de : Int} {a : Option Addr} {c : Nat} {vs : List V3} (hQ : Cl w q [.float .f32 f1, .float .f32 f2, .float .f32 f3, .float .f32 st, .int .i64 wi, .int .i64 hi, .int .i64 de, .slice a vs.length c]) (hA : Cl w a (vl vs)) (hX : Cans3 vs) (hn : vs.length ≤ 1000) : Pure Try.prog 125 [.pointer (some (adr q 0))] w (.tuple #[.float .f32 (if allF vs (vs.length * 3) then scU vs (vs.length * 3) else 0), .bool (allF vs (vs.length * 3))]) := by
  refine Pure.enter Try.func125 rfl Try.ntmps125 (Nat.le_of_ble_eq_true rfl) ?_
  refine V.seq ?_
  refine V.region ?_
  refine VL.r (.inl rfl) rfl (by decide) (yr_assign (u := .float .f32 0) rfl rfl) ?_
  refine VL.r (.inl rfl) rfl (by decide) (yr_assign (u := .bool false) rfl rfl) ?_
  refine VL.nil ?_
  refine VE.then_wp ?_
  refine V.seq ?_
  refine V.region ?_
  refine VL.r (.inl rfl) rfl (by decide) (yr_assign (u := .float .f32 0) rfl rfl) ?_
  refine VL.nil ?_
  refine VE.then_wp ?_
  refine V.seq ?_
  refine V.seq ?_
  refine V.region ?_
  refine VL.r (.inl rfl) rfl (by decide) (yr_assign (u := .int .i64 0) rfl rfl) ?_
  refine VL.nil ?_
  refine VE.then_wp ?_
  refine V.block ?_
  refine V.loopc (G := Nat) [(0, _)] (fun (i : Nat) => i ≤ vs.length ∧ allF vs (i * 3) = true) (fun (i : Nat) => []) (fun (i : Nat) => [(4, .float .f32 (scU vs (i * 3))), (5, .int .i64 (i : Int))]) (fun (i : Nat) => vs.length - i) 0 (.cons rfl .nil) (.cons (congrArg (fun n => some (Value.float .f32 n)) (by rw [Nat.zero_mul]; rfl)) (.cons rfl .nil)) ?_ ?_ ?_
  · exact (fun w hw => hw)
  · exact (by exact ⟨Nat.zero_le _, by rw [Nat.zero_mul]; rfl⟩)
  rintro i ⟨hi9, hia⟩
  show V _ _ _ [] ([(4, .float .f32 (scU vs (i * 3))), (5, .int .i64 (i : Int))] ++ [(0, _)]) _ _
  refine V.seq ?_
  refine V.seq ?_
  refine V.region ?_
  refine VL.r (.inl rfl) rfl (by decide) (yr_move rfl rfl) ?_
  refine VL.r (.inl rfl) rfl (by decide) (yr_move rfl rfl) ?_
  refine VL.r (.inl rfl) rfl (by decide) (yr_nilCheck rfl rfl) ?_
  refine VL.r (.inl rfl) rfl (by decide) (yr_fieldAddr rfl Try.underlying30 rfl rfl sz28_PkA (by decide) rfl) ?_
  refine VL.q (.inl rfl) rfl (by decide) (yq_load rfl fb28_PkA rfl (by first | exact Sees.root (by assumption) | exact Sees.own (by repeat (first | exact List.mem_cons_self | exact List.mem_append_left _ (by assumption) | apply List.mem_cons_of_mem | apply List.mem_append_right)) | exact Sees.root (hR _ (by omega)) | exact Sees.own (RowsIn.mem (by repeat (first | exact RowsIn.here | exact RowsIn.last | apply RowsIn.there | apply RowsIn.thereS)) _ (by omega)) | exact Sees.own (WRowsIn.mem (by repeat (first | exact WRowsIn.here | exact WRowsIn.last | apply WRowsIn.there | apply WRowsIn.thereS)) _ (by omega))) rfl) ?_
  refine VL.r (.inl rfl) rfl (by decide) (yr_len rfl Try.underlying28 rfl) ?_
  refine VL.r (.inl rfl) rfl (by decide) (yr_icmp rfl (.inr (.inr (.inl rfl))) rfl rfl) ?_
  refine VL.nil ?_
  refine VE.then_wp ?_
  refine V.cond rfl (fun h1 => ?_) (fun h1 => ?_)
  · skip
    replace h1 := ic_lss h1
    refine V.skip ?_
    refine VE.then_wp ?_
    refine V.seq ?_
    refine V.block ?_
    refine V.seq ?_
    refine V.region ?_
    refine VL.r (.inl rfl) rfl (by decide) (yr_assign (u := .int .i64 0) rfl rfl) ?_
    refine VL.nil ?_
    refine VE.then_wp ?_
    refine V.block ?_
    refine V.loopc (G := Nat) [(0, _), (5, _)] (fun (j : Nat) => j ≤ 3 ∧ allF vs (i * 3 + j) = true) (fun (j : Nat) => []) (fun (j : Nat) => [(4, .float .f32 (scU vs (i * 3 + j))), (6, .int .i64 (j : Int))]) (fun (j : Nat) => 3 - j) 0 (.cons rfl (.cons rfl .nil)) (.cons rfl (.cons rfl .nil)) ?_ ?_ ?_
    · exact (fun w hw => hw)
    · exact (by exact ⟨Nat.zero_le _, hia⟩)
    rintro j ⟨hj, hja⟩
    show V _ _ _ [] ([(4, .float .f32 (scU vs (i * 3 + j))), (6, .int .i64 (j : Int))] ++ [(0, _), (5, _)]) _ _
    refine V.seq ?_
    refine V.seq ?_
    refine V.region ?_
    refine VL.r (.inl rfl) rfl (by decide) (yr_move rfl rfl) ?_
    refine VL.r (.inl rfl) rfl (by decide) (yr_icmp rfl (.inr (.inr (.inl rfl))) rfl rfl) ?_
    refine VL.nil ?_
    refine VE.then_wp ?_
    refine V.cond rfl (fun h2 => ?_) (fun h2 => ?_)
    · skip
      replace h2 := ic_lss h2
      refine V.skip ?_
      refine VE.then_wp ?_
      refine V.seq ?_
      refine V.block ?_
      refine V.seq ?_
      refine V.region ?_
      refine VL.r (.inl rfl) rfl (by decide) (yr_move rfl rfl) ?_
      refine VL.r (.inl rfl) rfl (by decide) (yr_nilCheck rfl rfl) ?_
      refine VL.r (.inl rfl) rfl (by decide) (yr_fieldAddr rfl Try.underlying30 rfl rfl sz28_PkA (by decide) rfl) ?_
      refine VL.q (.inl rfl) rfl (by decide) (yq_load rfl fb28_PkA rfl (by first | exact Sees.root (by assumption) | exact Sees.own (by repeat (first | exact List.mem_cons_self | exact List.mem_append_left _ (by assumption) | apply List.mem_cons_of_mem | apply List.mem_append_right)) | exact Sees.root (hR _ (by omega)) | exact Sees.own (RowsIn.mem (by repeat (first | exact RowsIn.here | exact RowsIn.last | apply RowsIn.there | apply RowsIn.thereS)) _ (by omega)) | exact Sees.own (WRowsIn.mem (by repeat (first | exact WRowsIn.here | exact WRowsIn.last | apply WRowsIn.there | apply WRowsIn.thereS)) _ (by omega))) rfl) ?_
      refine VL.r (.inl rfl) rfl (by decide) (yr_move rfl rfl) ?_
      refine VL.q (.inl rfl) rfl (by decide) (yq_idxN (k := i) rfl Try.underlying28 sz27_PkA rfl rfl (by first | exact Sees.root (by assumption) | exact Sees.own (by repeat (first | exact List.mem_cons_self | exact List.mem_append_left _ (by assumption) | apply List.mem_cons_of_mem | apply List.mem_append_right)) | exact Sees.root (hR _ (by omega)) | exact Sees.own (RowsIn.mem (by repeat (first | exact RowsIn.here | exact RowsIn.last | apply RowsIn.there | apply RowsIn.thereS)) _ (by omega)) | exact Sees.own (WRowsIn.mem (by repeat (first | exact WRowsIn.here | exact WRowsIn.last | apply WRowsIn.there | apply WRowsIn.thereS)) _ (by omega))) (by first | rfl | omega | (push_cast; rfl) | (push_cast; omega) | exact tmod_nat _ _) (by exact vl_length _) (by decide) (by omega)) ?_
      refine VL.q (.inl rfl) rfl (by decide) (yq_loadV rfl Try.underlying27 sz27_PkA rfl (by first | exact Sees.root (by assumption) | exact Sees.own (by repeat (first | exact List.mem_cons_self | exact List.mem_append_left _ (by assumption) | apply List.mem_cons_of_mem | apply List.mem_append_right)) | exact Sees.root (hR _ (by omega)) | exact Sees.own (RowsIn.mem (by repeat (first | exact RowsIn.here | exact RowsIn.last | apply RowsIn.there | apply RowsIn.thereS)) _ (by omega)) | exact Sees.own (WRowsIn.mem (by repeat (first | exact WRowsIn.here | exact WRowsIn.last | apply WRowsIn.there | apply WRowsIn.thereS)) _ (by omega))) (by omega)) ?_
      refine VL.r (.inl rfl) rfl (by decide) (yr_move rfl rfl) ?_
      refine VL.q (.inl rfl) rfl (by decide) (yq_callf rfl known127_PkA (.cons rfl (.cons rfl .nil)) (fun w hw => (c_part (j := j) (by omega)))) ?_
      refine VL.r (.inl rfl) rfl (by decide) (yr_assign rfl rfl) ?_
      refine VL.nil ?_
      refine VE.then_wp ?_
      refine V.seq ?_
      refine V.seq ?_
      refine V.region ?_
      refine VL.r (.inl rfl) rfl (by decide) (yr_move rfl rfl) ?_
      refine VL.q (.inl rfl) rfl (by decide) (yq_callf rfl known80_PkA (.cons rfl .nil) (fun w hw => c_l01Finite _)) ?_
      refine VL.r (.inl rfl) rfl (by decide) (yr_not rfl rfl) ?_
      refine VL.nil ?_
      refine VE.then_wp ?_
      refine V.cond rfl (fun h3 => ?_) (fun h3 => ?_)
      · skip
        replace h3 := bnot_t h3
        refine V.seq ?_
        refine V.region ?_
        refine VL.r (.inl rfl) rfl (by decide) (yr_assign (u := .float .f32 0) rfl rfl) ?_
        refine VL.r (.inl rfl) rfl (by decide) (yr_assign (u := .bool false) rfl rfl) ?_
        refine VL.nil ?_
        refine VE.then_wp ?_
        refine V.ret ?_
        refine VE.then_ret ?_
        refine VE.block_ret ?_
        refine VE.then_ret ?_
        refine VE.then_ret ?_
        refine VE.block_ret ?_
        refine VE.block_ret ?_
        refine VE.then_ret ?_
        refine VE.then_ret ?_
        refine VE.block_ret ?_
        refine VE.then_ret ?_
        refine ret2 rfl rfl rfl (by nofun) (by nofun) (fun w1 hw => ?_)
        first
          | (obtain rfl : i = vs.length := by omega
             exact ⟨by rw [hia]; rfl, hw.below⟩)
          | (have h8 : allF vs (vs.length * 3) = false := allF_no hja (by rw [(num_part (vs := vs) (i := i) (j := j) (by omega))]; assumption) (by omega)
             exact ⟨by rw [h8]; rfl, hw.below⟩)
      · skip
        replace h3 := bnot_f h3
        refine V.skip ?_
        refine VE.then_wp ?_
        refine V.seq ?_
        refine V.seq ?_
        refine V.region ?_
        refine VL.r (.inl rfl) rfl (by decide) (yr_move rfl rfl) ?_
        refine VL.r (.inl rfl) rfl (by decide) (yr_fcmp (b := 0) rfl (.inr (.inr (.inl rfl))) rfl rfl) ?_
        refine VL.nil ?_
        refine VE.then_wp ?_
        refine V.cond rfl (fun h4 => ?_) (fun h4 => ?_)
        · skip
          refine V.region ?_
          refine VL.r (.inl rfl) rfl (by decide) (yr_move rfl rfl) ?_
          refine VL.r (.inl rfl) rfl (by decide) (yr_fneg rfl rfl) ?_
          refine VL.r (.inl rfl) rfl (by decide) (yr_assign rfl rfl) ?_
          refine VL.nil ?_
          refine VE.then_wp ?_
          refine V.seq ?_
          refine V.region ?_
          refine VL.r (.inl rfl) rfl (by decide) (yr_move rfl rfl) ?_
          refine VL.r (.inl rfl) rfl (by decide) (yr_move rfl rfl) ?_
          refine VL.r (.inl rfl) rfl (by decide) (yr_fcmp rfl (.inr (.inr (.inr (.inr (.inl rfl))))) rfl rfl) ?_
          refine VL.nil ?_
          refine VE.then_wp ?_
          refine V.cond rfl (fun h5 => ?_) (fun h5 => ?_)
          · skip
            refine V.region ?_
            refine VL.r (.inl rfl) rfl (by decide) (yr_move rfl rfl) ?_
            refine VL.r (.inl rfl) rfl (by decide) (yr_assign rfl rfl) ?_
            refine VL.nil ?_
            refine VE.block_normal ?_
            refine VE.then_wp ?_
            refine V.region ?_
            refine VL.r (.inl rfl) rfl (by decide) (yr_move rfl rfl) ?_
            refine VL.r (.inl rfl) rfl (by decide) (yr_int rfl rfl rfl (.inl ⟨rfl, wrap_in (by omega)⟩)) ?_
            refine VL.r (.inl rfl) rfl (by decide) (yr_assign rfl rfl) ?_
            refine VL.nil ?_
            refine VE.round (j + 1) ?_ ?_ ?_ ?_ ?_
            · exact (.cons (congrArg (fun n => some (Value.float .f32 n)) (by first | exact scU_n1 (num_part (vs := vs) (i := i) (j := j) (by omega)) (can_part (hX.row (by omega))) (by assumption) (by assumption) (by assumption) | exact scU_n0 (num_part (vs := vs) (i := i) (j := j) (by omega)) (can_part (hX.row (by omega))) (by assumption) (by assumption) (by assumption) | exact scU_p1 hja (num_part (vs := vs) (i := i) (j := j) (by omega)) (can_part (hX.row (by omega))) (by assumption) (by assumption) (by assumption) | exact scU_p0 hja (num_part (vs := vs) (i := i) (j := j) (by omega)) (can_part (hX.row (by omega))) (by assumption) (by assumption) (by assumption))) (.cons rfl .nil))
            · exact (.cons rfl (.cons rfl .nil))
            · exact (fun w hw => hw)
            · exact ⟨by omega, allF_s hja (num_part (vs := vs) (i := i) (j := j) (by omega)) (by assumption)⟩
            · (try dsimp only); omega
          · skip
            refine V.skip ?_
            refine VE.block_normal ?_
            refine VE.then_wp ?_
            refine V.region ?_
            refine VL.r (.inl rfl) rfl (by decide) (yr_move rfl rfl) ?_
            refine VL.r (.inl rfl) rfl (by decide) (yr_int rfl rfl rfl (.inl ⟨rfl, wrap_in (by omega)⟩)) ?_
            refine VL.r (.inl rfl) rfl (by decide) (yr_assign rfl rfl) ?_
            refine VL.nil ?_
            refine VE.round (j + 1) ?_ ?_ ?_ ?_ ?_
            · exact (.cons (congrArg (fun n => some (Value.float .f32 n)) (by first | exact scU_n1 (num_part (vs := vs) (i := i) (j := j) (by omega)) (can_part (hX.row (by omega))) (by assumption) (by assumption) (by assumption) | exact scU_n0 (num_part (vs := vs) (i := i) (j := j) (by omega)) (can_part (hX.row (by omega))) (by assumption) (by assumption) (by assumption) | exact scU_p1 hja (num_part (vs := vs) (i := i) (j := j) (by omega)) (can_part (hX.row (by omega))) (by assumption) (by assumption) (by assumption) | exact scU_p0 hja (num_part (vs := vs) (i := i) (j := j) (by omega)) (can_part (hX.row (by omega))) (by assumption) (by assumption) (by assumption))) (.cons rfl .nil))
            · exact (.cons rfl (.cons rfl .nil))
            · exact (fun w hw => hw)
            · exact ⟨by omega, allF_s hja (num_part (vs := vs) (i := i) (j := j) (by omega)) (by assumption)⟩
            · (try dsimp only); omega
        · skip
          refine V.skip ?_
          refine VE.then_wp ?_
          refine V.seq ?_
          refine V.region ?_
          refine VL.r (.inl rfl) rfl (by decide) (yr_move rfl rfl) ?_
          refine VL.r (.inl rfl) rfl (by decide) (yr_move rfl rfl) ?_
          refine VL.r (.inl rfl) rfl (by decide) (yr_fcmp rfl (.inr (.inr (.inr (.inr (.inl rfl))))) rfl rfl) ?_
          refine VL.nil ?_
          refine VE.then_wp ?_
          refine V.cond rfl (fun h6 => ?_) (fun h6 => ?_)
          · skip
            refine V.region ?_
            refine VL.r (.inl rfl) rfl (by decide) (yr_move rfl rfl) ?_
            refine VL.r (.inl rfl) rfl (by decide) (yr_assign rfl rfl) ?_
            refine VL.nil ?_
            refine VE.block_normal ?_
            refine VE.then_wp ?_
            refine V.region ?_
            refine VL.r (.inl rfl) rfl (by decide) (yr_move rfl rfl) ?_
            refine VL.r (.inl rfl) rfl (by decide) (yr_int rfl rfl rfl (.inl ⟨rfl, wrap_in (by omega)⟩)) ?_
            refine VL.r (.inl rfl) rfl (by decide) (yr_assign rfl rfl) ?_
            refine VL.nil ?_
            refine VE.round (j + 1) ?_ ?_ ?_ ?_ ?_
            · exact (.cons (congrArg (fun n => some (Value.float .f32 n)) (by first | exact scU_n1 (num_part (vs := vs) (i := i) (j := j) (by omega)) (can_part (hX.row (by omega))) (by assumption) (by assumption) (by assumption) | exact scU_n0 (num_part (vs := vs) (i := i) (j := j) (by omega)) (can_part (hX.row (by omega))) (by assumption) (by assumption) (by assumption) | exact scU_p1 hja (num_part (vs := vs) (i := i) (j := j) (by omega)) (can_part (hX.row (by omega))) (by assumption) (by assumption) (by assumption) | exact scU_p0 hja (num_part (vs := vs) (i := i) (j := j) (by omega)) (can_part (hX.row (by omega))) (by assumption) (by assumption) (by assumption))) (.cons rfl .nil))
            · exact (.cons rfl (.cons rfl .nil))
            · exact (fun w hw => hw)
            · exact ⟨by omega, allF_s hja (num_part (vs := vs) (i := i) (j := j) (by omega)) (by assumption)⟩
            · (try dsimp only); omega
          · skip
            refine V.skip ?_
            refine VE.block_normal ?_
            refine VE.then_wp ?_
            refine V.region ?_
            refine VL.r (.inl rfl) rfl (by decide) (yr_move rfl rfl) ?_
            refine VL.r (.inl rfl) rfl (by decide) (yr_int rfl rfl rfl (.inl ⟨rfl, wrap_in (by omega)⟩)) ?_
            refine VL.r (.inl rfl) rfl (by decide) (yr_assign rfl rfl) ?_
            refine VL.nil ?_
            refine VE.round (j + 1) ?_ ?_ ?_ ?_ ?_
            · exact (.cons (congrArg (fun n => some (Value.float .f32 n)) (by first | exact scU_n1 (num_part (vs := vs) (i := i) (j := j) (by omega)) (can_part (hX.row (by omega))) (by assumption) (by assumption) (by assumption) | exact scU_n0 (num_part (vs := vs) (i := i) (j := j) (by omega)) (can_part (hX.row (by omega))) (by assumption) (by assumption) (by assumption) | exact scU_p1 hja (num_part (vs := vs) (i := i) (j := j) (by omega)) (can_part (hX.row (by omega))) (by assumption) (by assumption) (by assumption) | exact scU_p0 hja (num_part (vs := vs) (i := i) (j := j) (by omega)) (can_part (hX.row (by omega))) (by assumption) (by assumption) (by assumption))) (.cons rfl .nil))
            · exact (.cons rfl (.cons rfl .nil))
            · exact (fun w hw => hw)
            · exact ⟨by omega, allF_s hja (num_part (vs := vs) (i := i) (j := j) (by omega)) (by assumption)⟩
            · (try dsimp only); omega
    · skip
      replace h2 := ic_lss' h2
      refine V.exit ?_
      refine VE.then_exit ?_
      refine VE.then_exit ?_
      refine VE.block_here ?_
      refine VE.block_normal ?_
      refine VE.then_wp ?_
      refine V.region ?_
      refine VL.r (.inl rfl) rfl (by decide) (yr_move rfl rfl) ?_
      refine VL.r (.inl rfl) rfl (by decide) (yr_int rfl rfl rfl (.inl ⟨rfl, wrap_in (by omega)⟩)) ?_
      refine VL.r (.inl rfl) rfl (by decide) (yr_assign rfl rfl) ?_
      refine VL.nil ?_
      refine VE.round (i + 1) ?_ ?_ ?_ ?_ ?_
      · exact (.cons (congrArg (fun n => some (Value.float .f32 n)) (by rw [show (i + 1) * 3 = i * 3 + j by omega])) (.cons rfl .nil))
      · exact (.cons rfl .nil)
      · exact (fun w hw => hw)
      · exact ⟨by omega, by rw [show (i + 1) * 3 = i * 3 + j by omega]; exact hja⟩
      · (try dsimp only); omega
  · skip
    replace h1 := ic_lss' h1
    refine V.exit ?_
    refine VE.then_exit ?_
    refine VE.then_exit ?_
    refine VE.block_here ?_
    refine VE.then_wp ?_
    refine V.seq ?_
    refine V.region ?_
    refine VL.r (.inl rfl) rfl (by decide) (yr_move rfl rfl) ?_
    refine VL.r (.inl rfl) rfl (by decide) (yr_assign rfl rfl) ?_
    refine VL.r (.inl rfl) rfl (by decide) (yr_assign (u := .bool true) rfl rfl) ?_
    refine VL.nil ?_
    refine VE.then_wp ?_
    refine V.ret ?_
    refine ret2 rfl rfl rfl (by nofun) (by nofun) (fun w1 hw => ?_)
    first
      | (obtain rfl : i = vs.length := by omega
         exact ⟨by rw [hia]; rfl, hw.below⟩)
      | (have h8 : allF vs (vs.length * 3) = false := allF_no hja (by rw [(num_part (vs := vs) (i := i) (j := j) (by omega))]; assumption) (by omega)
         exact ⟨by rw [h8]; rfl, hw.below⟩)

end Go.Proofs.Ytnommdpgmoljcaa


namespace Go.Proofs.Ytnommdpgmoljcaa
open Go.RowKit
set_option linter.unusedVariables false
set_option linter.unusedSimpArgs false
set_option maxRecDepth 20000

theorem mixed_UnA : Try.prog.follows .mixedOrders = true := by kernel_rfl
theorem ext94_UnA : ExtF Try.prog 94 Extern.MathFloatBits.float32frombits := ⟨_, Try.func94, by kernel_rfl, by kernel_rfl, by kernel_rfl, by kernel_rfl⟩
theorem known124_UnA : Known Try.prog 124 := Known.mk' Try.func124 (by kernel_rfl)
attribute [local irreducible] fop fcmp fconv fneg fabs List.getD sb

theorem c_readNum {w : World} {s : ByteArray} (hs : s.size = 4) : Pure Try.prog 55 [.string s] w (.float .f32 (cb .f32 (rd4 s 0))) := by
  refine Pure.enter Try.func55 rfl Try.ntmps55 (Nat.le_of_ble_eq_true rfl) ?_
  have hb0 := sb_lt s 0
  have hb1 := sb_lt s 1
  have hb2 := sb_lt s 2
  have hb3 := sb_lt s 3
  refine V.seq ?_
  refine V.region ?_
  refine VL.r (.inl rfl) rfl (by decide) (yr_assign (u := .float .f32 0) rfl rfl) ?_
  refine VL.nil ?_
  refine VE.then_wp ?_
  refine V.seq ?_
  refine Dr.V.drawR [(0, 5), (1, 5), (2, 5), (3, 5), (4, 5), (5, 5), (6, 5), (7, 5), (8, 5), (9, 5), (10, 5), (11, 5), (12, 5), (13, 5), (14, 5), (15, 5), (16, 5), (17, 5), (18, 5), (19, 5)] [] [] _ mixed_UnA (by kernel_rfl) (fun w hw => hw) ?_
  refine Dr.SW.r rfl (.inl rfl) rfl (by decide) (yr_move rfl rfl) ?_
  refine Dr.SW.r rfl (.inl rfl) rfl (by decide) (yr_strByte (i := 0) rfl Try.underlying9 rfl rfl (by first | rfl | omega | (push_cast; rfl) | (push_cast; omega)) (by omega)) ?_
  refine Dr.SW.r rfl (.inl rfl) rfl (by decide) (yr_intConv (r := (sb s (0) : Int)) rfl Try.underlying5 Try.underlying117 rfl (u32_nat (by have := sb_lt s (0); omega))) ?_
  refine Dr.SW.r rfl (.inl rfl) rfl (by decide) (yr_move rfl rfl) ?_
  refine Dr.SW.r rfl (.inl rfl) rfl (by decide) (yr_strByte (i := 1) rfl Try.underlying9 rfl rfl (by first | rfl | omega | (push_cast; rfl) | (push_cast; omega)) (by omega)) ?_
  refine Dr.SW.r rfl (.inl rfl) rfl (by decide) (yr_intConv (r := (sb s (1) : Int)) rfl Try.underlying5 Try.underlying117 rfl (u32_nat (by have := sb_lt s (1); omega))) ?_
  refine Dr.SW.r rfl (.inl rfl) rfl (by decide) (yr_shl (b := 8) (r := ((sb s (1) * 2 ^ 8 : Nat) : Int)) rfl rfl rfl (shl_32 (by decide) (by omega))) ?_
  refine Dr.SW.r rfl (.inl rfl) rfl (by decide) (yr_bits (r := ((sb s (0) + sb s (1) * 256 : Nat) : Int)) rfl rfl rfl (.inr ⟨rfl, or_32 (n := 8) (by omega) (by omega) (by omega)⟩)) ?_
  refine Dr.SW.r rfl (.inl rfl) rfl (by decide) (yr_move rfl rfl) ?_
  refine Dr.SW.r rfl (.inl rfl) rfl (by decide) (yr_strByte (i := 2) rfl Try.underlying9 rfl rfl (by first | rfl | omega | (push_cast; rfl) | (push_cast; omega)) (by omega)) ?_
  refine Dr.SW.r rfl (.inl rfl) rfl (by decide) (yr_intConv (r := (sb s (2) : Int)) rfl Try.underlying5 Try.underlying117 rfl (u32_nat (by have := sb_lt s (2); omega))) ?_
  refine Dr.SW.r rfl (.inl rfl) rfl (by decide) (yr_shl (b := 16) (r := ((sb s (2) * 2 ^ 16 : Nat) : Int)) rfl rfl rfl (shl_32 (by decide) (by omega))) ?_
  refine Dr.SW.r rfl (.inl rfl) rfl (by decide) (yr_bits (r := ((sb s (0) + sb s (1) * 256 + sb s (2) * 65536 : Nat) : Int)) rfl rfl rfl (.inr ⟨rfl, or_32 (n := 16) (by omega) (by omega) (by omega)⟩)) ?_
  refine Dr.SW.r rfl (.inl rfl) rfl (by decide) (yr_move rfl rfl) ?_
  refine Dr.SW.r rfl (.inl rfl) rfl (by decide) (yr_strByte (i := 3) rfl Try.underlying9 rfl rfl (by first | rfl | omega | (push_cast; rfl) | (push_cast; omega)) (by omega)) ?_
  refine Dr.SW.r rfl (.inl rfl) rfl (by decide) (yr_intConv (r := (sb s (3) : Int)) rfl Try.underlying5 Try.underlying117 rfl (u32_nat (by have := sb_lt s (3); omega))) ?_
  refine Dr.SW.r rfl (.inl rfl) rfl (by decide) (yr_shl (b := 24) (r := ((sb s (3) * 2 ^ 24 : Nat) : Int)) rfl rfl rfl (shl_32 (by decide) (by omega))) ?_
  refine Dr.SW.r rfl (.inl rfl) rfl (by decide) (yr_bits (r := ((sb s (0) + sb s (1) * 256 + sb s (2) * 65536 + sb s (3) * 16777216 : Nat) : Int)) rfl rfl rfl (.inr ⟨rfl, or_32 (n := 24) (by omega) (by omega) (by omega)⟩)) ?_
  refine Dr.SW.p rfl (.inl rfl) rfl (by decide) (yq_ext rfl ext94_UnA (.cons rfl .nil) (fun vs w h => ext_from32 vs w h)) ?_
  refine Dr.SW.r rfl (.inl rfl) rfl (by decide) (yr_assign rfl rfl) ?_
  refine Dr.SW.done ?_
  refine Dr.eqO (by simp only [List.append_nil, List.append_assoc, List.cons_append, List.nil_append] <;> rfl) ?_
  refine VE.then_wp ?_
  refine V.ret ?_
  refine ret1 rfl rfl (fun w1 hw => ?_)
  exact ⟨rfl, hw.below⟩

theorem c_l01From {w : World} {x : Nat} (hx : x < 4294967296) : Pure Try.prog 124 [.int .i64 (x : Int)] w (.float .f32 (cb .f32 x)) := by
  refine Pure.enter Try.func124 rfl Try.ntmps124 (Nat.le_of_ble_eq_true rfl) ?_
  refine V.seq ?_
  refine V.region ?_
  refine VL.r (.inl rfl) rfl (by decide) (yr_assign (u := .float .f32 0) rfl rfl) ?_
  refine VL.nil ?_
  refine VE.then_wp ?_
  refine V.seq ?_
  refine V.region ?_
  refine VL.r (.inl rfl) rfl (by decide) (yr_move rfl rfl) ?_
  refine VL.r (.inl rfl) rfl (by decide) (yr_intConv (r := (x : Int)) rfl Try.underlying2 Try.underlying117 rfl (u32_nat hx)) ?_
  refine VL.q (.inl rfl) rfl (by decide) (yq_ext rfl ext94_UnA (.cons rfl .nil) (fun vs w h => ext_from32 vs w h)) ?_
  refine VL.r (.inl rfl) rfl (by decide) (yr_assign rfl rfl) ?_
  refine VL.nil ?_
  refine VE.then_wp ?_
  refine V.ret ?_
  refine ret1 rfl rfl (fun w1 hw => ?_)
  exact ⟨rfl, hw.below⟩

theorem c_l06Num {w : World} {s : ByteArray} {p : Nat} (hs : p + 4 ≤ s.size) (hp : p ≤ 100000) : Pure Try.prog 90 [.string s, .int .i64 (p : Int)] w (.float .f32 (cb .f32 (rd4 s p))) := by
  refine Pure.enter Try.func90 rfl Try.ntmps90 (Nat.le_of_ble_eq_true rfl) ?_
  have hb0 := sb_lt s p
  have hb1 := sb_lt s (p + 1)
  have hb2 := sb_lt s (p + 2)
  have hb3 := sb_lt s (p + 3)
  refine V.seq ?_
  refine V.region ?_
  refine VL.r (.inl rfl) rfl (by decide) (yr_assign (u := .float .f32 0) rfl rfl) ?_
  refine VL.nil ?_
  refine VE.then_wp ?_
  refine V.seq ?_
  refine Dr.V.drawR [(0, 5), (1, 5), (2, 5), (3, 5), (4, 5), (5, 5), (6, 5), (7, 5), (8, 5), (9, 5), (10, 5), (11, 5), (12, 5), (13, 5), (14, 5), (15, 5), (16, 5), (17, 5), (18, 5), (19, 5), (20, 5), (21, 5), (22, 5), (23, 5), (24, 5), (25, 5), (26, 5)] [] [] _ mixed_UnA (by kernel_rfl) (fun w hw => hw) ?_
  refine Dr.SW.r rfl (.inl rfl) rfl (by decide) (yr_move rfl rfl) ?_
  refine Dr.SW.r rfl (.inl rfl) rfl (by decide) (yr_move rfl rfl) ?_
  refine Dr.SW.r rfl (.inl rfl) rfl (by decide) (yr_strByte (i := p) rfl Try.underlying9 rfl rfl (by first | rfl | omega | (push_cast; rfl) | (push_cast; omega)) (by omega)) ?_
  refine Dr.SW.r rfl (.inl rfl) rfl (by decide) (yr_intConv (r := (sb s (p) : Int)) rfl Try.underlying5 Try.underlying2 rfl (i64_nat (by have := sb_lt s (p); omega))) ?_
  refine Dr.SW.r rfl (.inl rfl) rfl (by decide) (yr_move rfl rfl) ?_
  refine Dr.SW.r rfl (.inl rfl) rfl (by decide) (yr_move rfl rfl) ?_
  refine Dr.SW.r rfl (.inl rfl) rfl (by decide) (yr_int rfl rfl rfl (.inl ⟨rfl, wrap_in (by omega)⟩)) ?_
  refine Dr.SW.r rfl (.inl rfl) rfl (by decide) (yr_strByte (i := (p + 1)) rfl Try.underlying9 rfl rfl (by first | rfl | omega | (push_cast; rfl) | (push_cast; omega)) (by omega)) ?_
  refine Dr.SW.r rfl (.inl rfl) rfl (by decide) (yr_intConv (r := (sb s (p + 1) : Int)) rfl Try.underlying5 Try.underlying2 rfl (i64_nat (by have := sb_lt s (p + 1); omega))) ?_
  refine Dr.SW.r rfl (.inl rfl) rfl (by decide) (yr_shl (b := 8) (r := ((sb s (p + 1) * 2 ^ 8 : Nat) : Int)) rfl rfl rfl (shl_64 (by decide) (by omega))) ?_
  refine Dr.SW.r rfl (.inl rfl) rfl (by decide) (yr_bits (r := ((sb s (p) + sb s (p + 1) * 256 : Nat) : Int)) rfl rfl rfl (.inr ⟨rfl, or_64 (n := 8) (by omega) (by omega) (by omega)⟩)) ?_
  refine Dr.SW.r rfl (.inl rfl) rfl (by decide) (yr_move rfl rfl) ?_
  refine Dr.SW.r rfl (.inl rfl) rfl (by decide) (yr_move rfl rfl) ?_
  refine Dr.SW.r rfl (.inl rfl) rfl (by decide) (yr_int rfl rfl rfl (.inl ⟨rfl, wrap_in (by omega)⟩)) ?_
  refine Dr.SW.r rfl (.inl rfl) rfl (by decide) (yr_strByte (i := (p + 2)) rfl Try.underlying9 rfl rfl (by first | rfl | omega | (push_cast; rfl) | (push_cast; omega)) (by omega)) ?_
  refine Dr.SW.r rfl (.inl rfl) rfl (by decide) (yr_intConv (r := (sb s (p + 2) : Int)) rfl Try.underlying5 Try.underlying2 rfl (i64_nat (by have := sb_lt s (p + 2); omega))) ?_
  refine Dr.SW.r rfl (.inl rfl) rfl (by decide) (yr_shl (b := 16) (r := ((sb s (p + 2) * 2 ^ 16 : Nat) : Int)) rfl rfl rfl (shl_64 (by decide) (by omega))) ?_
  refine Dr.SW.r rfl (.inl rfl) rfl (by decide) (yr_bits (r := ((sb s (p) + sb s (p + 1) * 256 + sb s (p + 2) * 65536 : Nat) : Int)) rfl rfl rfl (.inr ⟨rfl, or_64 (n := 16) (by omega) (by omega) (by omega)⟩)) ?_
  refine Dr.SW.r rfl (.inl rfl) rfl (by decide) (yr_move rfl rfl) ?_
  refine Dr.SW.r rfl (.inl rfl) rfl (by decide) (yr_move rfl rfl) ?_
  refine Dr.SW.r rfl (.inl rfl) rfl (by decide) (yr_int rfl rfl rfl (.inl ⟨rfl, wrap_in (by omega)⟩)) ?_
  refine Dr.SW.r rfl (.inl rfl) rfl (by decide) (yr_strByte (i := (p + 3)) rfl Try.underlying9 rfl rfl (by first | rfl | omega | (push_cast; rfl) | (push_cast; omega)) (by omega)) ?_
  refine Dr.SW.r rfl (.inl rfl) rfl (by decide) (yr_intConv (r := (sb s (p + 3) : Int)) rfl Try.underlying5 Try.underlying2 rfl (i64_nat (by have := sb_lt s (p + 3); omega))) ?_
  refine Dr.SW.r rfl (.inl rfl) rfl (by decide) (yr_shl (b := 24) (r := ((sb s (p + 3) * 2 ^ 24 : Nat) : Int)) rfl rfl rfl (shl_64 (by decide) (by omega))) ?_
  refine Dr.SW.r rfl (.inl rfl) rfl (by decide) (yr_bits (r := ((sb s (p) + sb s (p + 1) * 256 + sb s (p + 2) * 65536 + sb s (p + 3) * 16777216 : Nat) : Int)) rfl rfl rfl (.inr ⟨rfl, or_64 (n := 24) (by omega) (by omega) (by omega)⟩)) ?_
  refine Dr.SW.p rfl (.inl rfl) rfl (by decide) (yq_callf rfl known124_UnA (.cons rfl .nil) (fun w hw => (c_l01From (x := sb s (p) + sb s (p + 1) * 256 + sb s (p + 2) * 65536 + sb s (p + 3) * 16777216) (by omega)))) ?_
  refine Dr.SW.r rfl (.inl rfl) rfl (by decide) (yr_assign rfl rfl) ?_
  refine Dr.SW.done ?_
  refine Dr.eqO (by simp only [List.append_nil, List.append_assoc, List.cons_append, List.nil_append] <;> rfl) ?_
  refine VE.then_wp ?_
  refine V.ret ?_
  refine ret1 rfl rfl (fun w1 hw => ?_)
  exact ⟨rfl, hw.below⟩

end Go.Proofs.Ytnommdpgmoljcaa


namespace Go.Proofs.Ytnommdpgmoljcaa
open Go.RowKit

theorem cut_even_le (s : Bool) {n d q : Nat} (h : n ≤ q * 2 ^ d) : Ieee.Toward.even.cut s n d ≤ q := by
  unfold Ieee.Toward.cut
  simp only [Nat.shiftLeft_eq, Nat.one_mul]
  by_cases hd : d ≤ n.log2 + 2
  · rw [Nat.min_eq_left hd]
    have hp := pow_pos' d
    have hlow : n / 2 ^ d ≤ q := Nat.div_le_of_le_mul (by rw [Nat.mul_comm]; exact h)
    rcases Nat.lt_or_eq_of_le hlow with hlt | heq
    · have : (decide (2 ^ d < 2 * (n % 2 ^ d)) || (2 ^ d == 2 * (n % 2 ^ d) && n / 2 ^ d % 2 == 1)).toNat ≤ 1 := Bool.toNat_le _
      omega
    · have hr : n % 2 ^ d = 0 := by
        have := Nat.div_add_mod n (2 ^ d)
        rw [heq, Nat.mul_comm] at this
        omega
      rw [heq, hr]
      have h1 : decide (2 ^ d < 2 * 0) = false := decide_eq_false (by omega)
      have h2 : (2 ^ d == 2 * 0) = false := by rw [beq_eq_false_iff_ne]; omega
      rw [h1, h2]
      simp
  · rw [Nat.min_eq_right (by omega)]
    have hlt : n < 2 ^ (n.log2 + 2) := Nat.lt_of_lt_of_le (lt_log2 n) (Nat.pow_le_pow_right (by decide) (by omega))
    have h2 : 2 * n < 2 ^ (n.log2 + 2) := by
      have := lt_log2 n
      rw [Nat.pow_succ]
      omega
    rw [Nat.div_eq_of_lt hlt, Nat.mod_eq_of_lt hlt]
    have h3 : decide (2 ^ (n.log2 + 2) < 2 * n) = false := decide_eq_false (by omega)
    have h4 : (2 ^ (n.log2 + 2) == 2 * n) = false := by rw [beq_eq_false_iff_ne]; omega
    rw [h3, h4]
    simp
/-- What is not greater than the number of a word is written as no greater word. -/
theorem nearest_le (f : Ieee.Format) (s : Bool) {m r a b : Nat} {e : Int} (he : e + a = f.leastPlace + b) (h : m * 2 ^ b ≤ units f r * 2 ^ a) : ∃ r', f.nearest s m e = f.word s r' ∧ r' ≤ r := by
  unfold Ieee.Format.nearest
  by_cases hm : m = 0
  · rw [if_pos hm]; exact ⟨0, rfl, Nat.zero_le _⟩
  rw [if_neg hm]
  refine ⟨_, rfl, Nat.le_trans (Nat.min_le_left _ _) ?_⟩
  have hmb : 0 < m * 2 ^ b := Nat.mul_pos (by omega) (pow_pos' b)
  have hu : units f r ≠ 0 := by
    intro h0
    rw [h0, Nat.zero_mul] at h
    omega
  have hl : m.log2 + b ≤ (units f r).log2 + a := by
    have := log2_mono h
    rwa [log2_mul_pow hm b, log2_mul_pow hu a] at this
  have hb : 0 < f.binade := pow_pos' _
  have hbe : f.binade = 2 ^ f.fractionBits := rfl
  have key : ∀ (q t : Nat), m * 2 ^ b ≤ q * 2 ^ t * 2 ^ a → Ieee.Toward.even.cut s (m <<< (e - (f.leastPlace + t)).toNat) ((f.leastPlace + t) - e).toNat ≤ q := by
    intro q t hqt
    rw [Nat.mul_assoc, ← Nat.pow_add] at hqt
    rcases Nat.le_total (t + a) b with hle | hle
    · have e1 : (e - (f.leastPlace + t)).toNat = b - (t + a) := by omega
      have e2 : ((f.leastPlace + t) - e).toNat = 0 := by omega
      rw [e1, e2, cut_zero, shl_eq]
      have : b = (b - (t + a)) + (t + a) := by omega
      rw [this, Nat.pow_add, ← Nat.mul_assoc] at hqt
      exact Nat.le_of_mul_le_mul_right hqt (pow_pos' _)
    · have e1 : (e - (f.leastPlace + t)).toNat = 0 := by omega
      have e2 : ((f.leastPlace + t) - e).toNat = t + a - b := by omega
      have : t + a = (t + a - b) + b := by omega
      rw [this, Nat.pow_add, ← Nat.mul_assoc] at hqt
      have hm' := Nat.le_of_mul_le_mul_right hqt (pow_pos' b)
      rw [e1, e2, shl_eq, Nat.pow_zero, Nat.mul_one]
      exact cut_even_le s hm'
  by_cases hrb : r < f.binade
  · have hur : units f r = r := by unfold units; rw [if_pos hrb]
    have hr0 : r ≠ 0 := by rw [← hur]; exact hu
    have hlg : (units f r).log2 < f.fractionBits := by
      rw [hur]
      exact (Nat.log2_lt hr0).2 hrb
    have hlast : max (e + (m.log2 : Int) - (f.fractionBits : Int)) f.leastPlace = f.leastPlace + ((0 : Nat) : Int) := by omega
    simp only [hlast]
    have hk := key r 0 (by rw [Nat.pow_zero, Nat.mul_one, ← hur]; exact h)
    have e0 : (f.leastPlace + ((0 : Nat) : Int) - f.leastPlace).toNat = 0 := by omega
    rw [e0, Nat.zero_mul, Nat.zero_add]
    exact hk
  · have hq1 : 1 ≤ r / f.binade := (Nat.le_div_iff_mul_le hb).2 (by omega)
    have hmod := Nat.mod_lt r hb
    have hur : units f r = (f.binade + r % f.binade) * 2 ^ (r / f.binade - 1) := by unfold units; rw [if_neg hrb]
    have hqne : f.binade + r % f.binade ≠ 0 := by omega
    have hlg : (units f r).log2 = f.fractionBits + (r / f.binade - 1) := by
      rw [hur, log2_mul_pow hqne]
      congr 1
      rw [Nat.log2_eq_iff hqne]
      rw [Nat.pow_succ, ← hbe]
      omega
    obtain ⟨t, ht⟩ : ∃ t : Nat, max (e + (m.log2 : Int) - (f.fractionBits : Int)) f.leastPlace = f.leastPlace + (t : Int) :=
      ⟨(max (e + (m.log2 : Int) - (f.fractionBits : Int)) f.leastPlace - f.leastPlace).toNat, by omega⟩
    have htT : t ≤ r / f.binade - 1 := by omega
    have hkl := kept_le s (m := m) (f := f.fractionBits) (place := e) (last := max (e + (m.log2 : Int) - (f.fractionBits : Int)) f.leastPlace) (Int.le_max_left _ _)
    simp only [ht] at hkl ⊢
    have e1 : (f.leastPlace + (t : Int) - f.leastPlace).toNat = t := by omega
    rw [e1]
    have e2 := Nat.div_add_mod r f.binade
    rw [Nat.mul_comm] at e2
    rcases Nat.lt_or_eq_of_le htT with hlt | heq
    · have h4 : 2 ^ (f.fractionBits + 1) = 2 * f.binade := by rw [Nat.pow_succ, Nat.mul_comm, hbe]
      rw [h4] at hkl
      have h5 : (t + 2) * f.binade ≤ r / f.binade * f.binade := Nat.mul_le_mul_right _ (by omega)
      rw [Nat.add_mul] at h5
      omega
    · have hk := key (f.binade + r % f.binade) t (by rw [heq, ← hur]; exact h)
      have h5 : (t + 1) * f.binade = r / f.binade * f.binade := by congr 1; omega
      rw [Nat.add_mul, Nat.one_mul] at h5
      omega
end Go.Proofs.Ytnommdpgmoljcaa


namespace Go.Proofs.Ytnommdpgmoljcaa
open Go.RowKit

/-- the double's word stands for a number of at most u units of 2 ^ -1074 -/
def ule (x u : Nat) : Prop := rng Ieee.double x < Ieee.double.infRung ∧ units Ieee.double (rng Ieee.double x) ≤ u
def r1 : Nat := 4607182418800017408
def u1 : Nat := units Ieee.double r1
theorem u1_is : u1 = 2 ^ 1074 := by unfold u1 units r1; decide +kernel
theorem u1_pow : ∃ c : Nat, c = 1074 ∧ u1 = 2 ^ c := ⟨1074, rfl, u1_is⟩
theorem units_mono (f : Ieee.Format) {r t : Nat} (h : r ≤ t) : units f r ≤ units f t := by
  have hb : 0 < f.binade := pow_pos' _
  rcases Nat.lt_or_ge t f.binade with ht | ht
  · have hr : r < f.binade := by omega
    unfold units
    rw [if_pos hr, if_pos ht]; exact h
  · obtain ⟨t1, t2⟩ := units_bounds f ht
    rcases Nat.lt_or_ge r f.binade with hr | hr
    · have hur : units f r = r := by unfold units; rw [if_pos hr]
      rw [hur]
      exact Nat.le_trans (Nat.le_of_lt hr) (Nat.le_trans (Nat.le_mul_of_pos_right _ (pow_pos' _)) t1)
    · obtain ⟨s1, s2⟩ := units_bounds f hr
      have hd : r / f.binade ≤ t / f.binade := Nat.div_le_div_right h
      rcases Nat.lt_or_eq_of_le hd with hlt | heq
      · have h3 : f.binade * 2 ^ (r / f.binade) ≤ f.binade * 2 ^ (t / f.binade - 1) := Nat.mul_le_mul_left _ (Nat.pow_le_pow_right (by decide) (by omega))
        omega
      · unfold units
        rw [if_neg (by omega), if_neg (by omega), heq]
        refine Nat.mul_le_mul_right _ ?_
        have e1 := Nat.div_add_mod r f.binade
        have e2 := Nat.div_add_mod t f.binade
        rw [heq] at e1
        omega
theorem ule_word (s : Bool) {r t : Nat} (h : r ≤ t) (ht : t < Ieee.double.infRung) : ule (Ieee.double.word s r) (units Ieee.double t) := by
  have hw := rng_word .f64 s (r := r) (by show r ≤ Ieee.double.infRung; omega)
  change rng Ieee.double (Ieee.double.word s r) = r ∧ _ at hw
  unfold ule
  rw [hw.1]
  exact ⟨by omega, units_mono _ h⟩
theorem quo_le1 {a b : Nat} {sa sb : Bool} {m n i j : Nat} (ha : Ieee.double.read a = .number sa m (-1074 + (i : Int))) (hb : Ieee.double.read b = .number sb n (-1074 + (j : Int))) (hn : n ≠ 0) (hl : i + m.log2 ≤ j + n.log2) (h : m * 2 ^ i ≤ n * 2 ^ j) : ule (fop .quo .f64 a b) u1 := by
  have e : fop .quo .f64 a b = ((((Ieee.double.read a).quotient 54 (Ieee.double.read b)).map Ieee.double.write).getD (qn .f64)) := rfl
  rw [e, ha, hb]
  simp only [Ieee.Datum.quotient, if_neg hn, Option.map_some, Option.getD_some]
  generalize hM : 54 + n.log2 - m.log2 = more
  have hij : i ≤ j + more := by omega
  obtain ⟨K, hK⟩ : ∃ K, j + more = i + K := ⟨j + more - i, by omega⟩
  have hD : m * 2 ^ more ≤ n * 2 ^ K := by
    have h2 : m * 2 ^ more * 2 ^ i ≤ n * 2 ^ K * 2 ^ i := by
      rw [Nat.mul_assoc, Nat.mul_comm (2 ^ more), ← Nat.mul_assoc, Nat.mul_assoc n, ← Nat.pow_add, Nat.add_comm K i, ← hK, Nat.pow_add, ← Nat.mul_assoc]
      exact Nat.mul_le_mul_right _ h
    exact Nat.le_of_mul_le_mul_right h2 (pow_pos' _)
  have hQ : 2 * ((m <<< more) / n) + ((m <<< more) % n != 0).toNat ≤ 2 ^ (K + 1) := by
    rw [shl_eq]
    generalize m * 2 ^ more = D at hD
    have hf : D / n ≤ 2 ^ K := Nat.div_le_of_le_mul hD
    rw [Nat.pow_succ]
    have hs : (D % n != 0).toNat ≤ 1 := Bool.toNat_le _
    rcases Nat.lt_or_eq_of_le hf with hlt | heq
    · omega
    · have e2 := Nat.div_add_mod D n
      rw [heq] at e2
      have h0 : D % n = 0 := by omega
      rw [heq, h0]
      simp
      omega
  obtain ⟨r', g1, g2⟩ := nearest_le Ieee.double (sa ^^ sb) (m := 2 * ((m <<< more) / n) + ((m <<< more) % n != 0).toNat) (r := r1) (a := j + more + 1) (b := i + 1074) (e := -1074 + (i : Int) - (-1074 + (j : Int)) - more - 1)
    (by have : Ieee.double.leastPlace = -1074 := by decide
        rw [this]; omega)
    (by
      change _ ≤ u1 * _
      obtain ⟨c, hc, hu⟩ := u1_pow
      rw [hu, hK, ← Nat.pow_add, ← hc]
      refine Nat.le_trans (Nat.mul_le_mul_right _ hQ) ?_
      rw [← Nat.pow_add]
      exact Nat.pow_le_pow_right (by decide) (by omega))
  show ule (Ieee.double.nearest _ _ _) u1
  rw [g1]
  exact ule_word _ g2 (by decide)
theorem mul_le1 {a b : Nat} (ha : rng Ieee.double a < Ieee.double.infRung) (hb : ule b u1) : ule (fop .mul .f64 a b) (units Ieee.double (rng Ieee.double a)) := by
  obtain ⟨hb1, hb2⟩ := hb
  obtain ⟨m, i, h1, h2⟩ := read_number Ieee.double ha
  obtain ⟨n, j, h3, h4⟩ := read_number Ieee.double hb1
  have hlp : Ieee.double.leastPlace = -1074 := by decide
  rw [hlp] at h1 h3
  have e : fop .mul .f64 a b = ((((Ieee.double.read a).product (Ieee.double.read b)).map Ieee.double.write).getD (qn .f64)) := rfl
  rw [e, h1, h3]
  simp only [Ieee.Datum.product, Option.map_some, Option.getD_some]
  obtain ⟨r', g1, g2⟩ := nearest_le Ieee.double (sgn Ieee.double a ^^ sgn Ieee.double b) (m := m * n) (r := rng Ieee.double a) (a := 1074) (b := i + j) (e := -1074 + (i : Int) + (-1074 + (j : Int)))
    (by rw [hlp]; omega)
    (by
      obtain ⟨c, hc, hu⟩ := u1_pow
      rw [← h2, Nat.pow_add, Nat.mul_mul_mul_comm, ← hc, ← hu]
      exact Nat.mul_le_mul_left _ (by rw [h4]; exact hb2))
  show ule (Ieee.double.nearest _ _ _) _
  rw [g1]
  exact ule_word _ g2 ha
end Go.Proofs.Ytnommdpgmoljcaa


namespace Go.Proofs.Ytnommdpgmoljcaa
open Go.RowKit

def rw5 : Nat := 4674736138332667904
theorem uw_is : units Ieee.double rw5 = 32767 * 2 ^ 1074 := by unfold units rw5; decide +kernel
theorem uw_pow : ∃ c : Nat, c = 1074 ∧ units Ieee.double rw5 = 32767 * 2 ^ c := ⟨1074, rfl, uw_is⟩
theorem ule_cut {y : Nat} (h : ule y (units Ieee.double rw5)) : ∃ (s : Bool) (m i : Nat), Ieee.double.read y = .number s m (-1074 + (i : Int)) ∧ ((1074 : Nat) ≤ i → m * 2 ^ (i - 1074) ≤ 32767) ∧ (i ≤ 1074 → m ≤ 32767 * 2 ^ (1074 - i)) := by
  obtain ⟨h1, h2⟩ := h
  obtain ⟨m, i, h3, h4⟩ := read_number Ieee.double h1
  have hlp : Ieee.double.leastPlace = -1074 := by decide
  rw [hlp] at h3
  obtain ⟨c, hc, hu⟩ := uw_pow
  rw [← h4, hu] at h2
  refine ⟨_, m, i, h3, fun hi => ?_, fun hi => ?_⟩
  · rw [← hc] at hi ⊢
    have e : i = (i - c) + c := by omega
    rw [e, Nat.pow_add, ← Nat.mul_assoc] at h2
    exact Nat.le_of_mul_le_mul_right h2 (pow_pos' c)
  · rw [← hc] at hi ⊢
    have e : c = (c - i) + i := by omega
    rw [e, Nat.pow_add, ← Nat.mul_assoc] at h2
    exact Nat.le_of_mul_le_mul_right h2 (pow_pos' i)
theorem round_le {y : Nat} (h : ule y (units Ieee.double rw5)) : ule (fround y) (units Ieee.double rw5) := by
  obtain ⟨s, m, i, h1, h2, h3⟩ := ule_cut h
  have h1' : FloatKind.f64.decode y = .number s m (-1074 + (i : Int)) := h1
  unfold fround
  rw [h1']
  simp only [Ieee.Datum.integral]
  have hc : Ieee.Toward.even.cut s (m <<< (-1074 + (i : Int)).toNat) (-(-1074 + (i : Int))).toNat ≤ 32767 := by
    rw [shl_eq]
    refine cut_even_le s ?_
    rcases Nat.le_total 1074 i with hi | hi
    · rw [show (-1074 + (i : Int)).toNat = i - 1074 by omega, show (-(-1074 + (i : Int))).toNat = 0 by omega, Nat.pow_zero, Nat.mul_one]
      exact h2 hi
    · rw [show (-1074 + (i : Int)).toNat = 0 by omega, show (-(-1074 + (i : Int))).toNat = 1074 - i by omega, Nat.pow_zero, Nat.mul_one]
      exact h3 hi
  obtain ⟨c, hc4, hu⟩ := uw_pow
  obtain ⟨r', g1, g2⟩ := nearest_le Ieee.double s (m := Ieee.Toward.even.cut s (m <<< (-1074 + (i : Int)).toNat) (-(-1074 + (i : Int))).toNat) (r := rw5) (a := 0) (b := c) (e := 0)
    (by have : Ieee.double.leastPlace = -1074 := by decide
        rw [this]; omega)
    (by rw [hu, Nat.pow_zero, Nat.mul_one]; exact Nat.mul_le_mul_right _ hc)
  show ule (Ieee.double.nearest _ _ _) _
  rw [g1]
  exact ule_word _ g2 (by decide)
theorem int_le {y : Nat} {q : Int} (h : ule y (units Ieee.double rw5)) (hq : floatToIntVal .f64 y .i64 = some q) : -32767 ≤ q ∧ q ≤ 32767 := by
  obtain ⟨s, m, i, h1, h2, h3⟩ := ule_cut h
  have h1' : FloatKind.f64.decode y = .number s m (-1074 + (i : Int)) := h1
  unfold floatToIntVal at hq
  rw [h1'] at hq
  simp only [Ieee.Datum.toInt, Ieee.Datum.integral] at hq
  have hz : ∀ n d, Ieee.Toward.zero.cut s n d ≤ n / 2 ^ d := by
    intro n d
    unfold Ieee.Toward.cut
    simp only [Bool.toNat_false, Nat.add_zero, Nat.shiftLeft_eq, Nat.one_mul]
    by_cases h : d ≤ n.log2 + 2
    · rw [Nat.min_eq_left h]; exact Nat.le_refl _
    · rw [Nat.min_eq_right (by omega)]
      have : n / 2 ^ (n.log2 + 2) = 0 := Nat.div_eq_of_lt (Nat.lt_of_lt_of_le Nat.lt_log2_self (Nat.pow_le_pow_right (by decide) (by omega)))
      rw [this]; exact Nat.zero_le _
  have hc : Ieee.Toward.zero.cut s (m <<< (-1074 + (i : Int)).toNat) (-(-1074 + (i : Int))).toNat ≤ 32767 := by
    refine Nat.le_trans (hz _ _) ?_
    rw [shl_eq]
    rcases Nat.le_total 1074 i with hi | hi
    · rw [show (-1074 + (i : Int)).toNat = i - 1074 by omega, show (-(-1074 + (i : Int))).toNat = 0 by omega, Nat.pow_zero, Nat.div_one]
      exact h2 hi
    · rw [show (-1074 + (i : Int)).toNat = 0 by omega, show (-(-1074 + (i : Int))).toNat = 1074 - i by omega, Nat.pow_zero, Nat.mul_one]
      exact Nat.div_le_of_le_mul (by rw [Nat.mul_comm]; exact h3 hi)
  generalize Ieee.Toward.zero.cut s (m <<< (-1074 + (i : Int)).toNat) (-(-1074 + (i : Int))).toNat = c at hq hc
  split at hq
  · injection hq with hq
    rw [← hq]
    unfold Ieee.signed
    rw [shl_eq, Nat.pow_zero, Nat.mul_one]
    split <;> omega
  · cases hq
/-- What is not greater than a single's number can be narrowed. -/
theorem fover_ule {x s : Nat} (hs : rng Ieee.single s < Ieee.single.infRung) (h : ule x (units Ieee.double (rng Ieee.double (up s)))) : fover .f64 .f32 x = false := by
  obtain ⟨h1, h2⟩ := h
  obtain ⟨_, k2, k3⟩ := up_number hs
  rw [k3] at h2
  obtain ⟨m, i, h3, h4⟩ := read_number Ieee.double h1
  have hlp : Ieee.double.leastPlace = -1074 := by decide
  rw [hlp] at h3
  have h3' : FloatKind.f64.decode x = .number (sgn Ieee.double x) m (-1074 + (i : Int)) := h3
  unfold fover
  rw [if_neg (by decide), h3']
  show (FloatKind.f32.decode (Ieee.single.nearest (sgn Ieee.double x) m (-1074 + (i : Int)))).isInfinity = false
  have hK : ∃ c : Nat, c = 925 ∧ upK = 2 ^ c := ⟨925, rfl, by unfold upK pow2; rfl⟩
  obtain ⟨c, hc, hu⟩ := hK
  obtain ⟨r', g1, g2⟩ := nearest_le Ieee.single (sgn Ieee.double x) (m := m) (r := rng Ieee.single s) (a := c) (b := i) (e := -1074 + (i : Int))
    (by have : Ieee.single.leastPlace = -149 := by decide
        rw [this]; omega)
    (by rw [h4, ← hu]; exact h2)
  rw [g1]
  have hi : Ieee.single.infRung = 2139095040 := by decide
  exact single_word_fin _ (by omega)
end Go.Proofs.Ytnommdpgmoljcaa


namespace Go.Proofs.Ytnommdpgmoljcaa
open Go.RowKit

theorem quo_ule {a b : Nat} (ha : ule a (units Ieee.double (rng Ieee.double b))) (hb : rng Ieee.double b < Ieee.double.infRung) (hb0 : rng Ieee.double b ≠ 0) : ule (fop .quo .f64 a b) u1 := by
  obtain ⟨g2, hle⟩ := ha
  obtain ⟨m, i, r1, r2⟩ := read_number Ieee.double g2
  obtain ⟨n, j, r3, r4⟩ := read_number Ieee.double hb
  have hlp : Ieee.double.leastPlace = -1074 := by decide
  rw [hlp] at r1 r3
  have hn0 : n * 2 ^ j ≠ 0 := by rw [r4]; exact units_pos _ hb0
  have hn : n ≠ 0 := fun h => hn0 (by rw [h, Nat.zero_mul])
  have hle' : m * 2 ^ i ≤ n * 2 ^ j := by rw [r2, r4]; exact hle
  have hlog : i + m.log2 ≤ j + n.log2 := by
    rcases Nat.eq_zero_or_pos m with h0 | h0
    · subst h0
      have : i = 0 := by
        have hu : units Ieee.double (rng Ieee.double a) = 0 := by rw [← r2, Nat.zero_mul]
        have hr0 := (units_zero Ieee.double).1 hu
        have hsm : Ieee.double.read a = .number (sgn Ieee.double a) 0 (-1074) := by
          unfold rng at hr0
          unfold Ieee.Format.read
          simp only [hr0]
          rw [if_pos (by decide), hlp]; rfl
        rw [hsm] at r1
        injection r1 with _ _ h3
        omega
      have : Nat.log2 0 = 0 := by decide
      omega
    · have := log2_mono hle'
      rw [log2_mul_pow (by omega), log2_mul_pow hn] at this
      omega
  exact quo_le1 r1 r3 hn hlog hle'
theorem rw5_fin : rng Ieee.double rw5 < Ieee.double.infRung ∧ rng Ieee.double rw5 ≠ 0 ∧ rng Ieee.double rw5 = rw5 := by decide
theorem qf_ule {s x : Nat} (hx : rng Ieee.single x < Ieee.single.infRung) (hs : rng Ieee.single s < Ieee.single.infRung) (hs0 : rng Ieee.single s ≠ 0) (hle : units Ieee.single (rng Ieee.single x) ≤ units Ieee.single (rng Ieee.single s)) : ule (qf s x) (units Ieee.double rw5) := by
  obtain ⟨_, g2, g3⟩ := up_number hx
  obtain ⟨_, k2, k3⟩ := up_number hs
  have h1 : ule (up x) (units Ieee.double (rng Ieee.double (up s))) := ⟨g2, by rw [g3, k3]; exact Nat.mul_le_mul_right _ hle⟩
  have h0 : rng Ieee.double (up s) ≠ 0 := by
    intro h
    have := (units_zero Ieee.double).2 h
    rw [k3] at this
    exact Nat.mul_ne_zero (units_pos _ hs0) (Nat.pos_iff_ne_zero.1 upK_pos) this
  have h2 := quo_ule h1 k2 h0
  have h3 := mul_le1 rw5_fin.1 h2
  rw [rw5_fin.2.2] at h3
  exact round_le h3
theorem qI_le {vs : List V3} {k j : Nat} (h : allF vs k = true) (hg : fcmp .gtr .f32 (scU vs k) 0 = true) (hj : j < k) : -32767 ≤ qI (scU vs k) (num vs j) ∧ qI (scU vs k) (num vs j) ≤ 32767 := by
  have hp := allF_pos h
  have hq := qI_is h hg hj
  rw [pos_gtr hp, decide_eq_true_eq] at hg
  obtain ⟨g1, g2⟩ := allF_le h j hj
  exact int_le (qf_ule (fin_rng g1) hp.1 hg g2) hq
theorem qz_le {vs : List V3} {k j : Nat} (h : allF vs k = true) (hj : j < k) : -32767 ≤ qz (scU vs k) (num vs j) ∧ qz (scU vs k) (num vs j) ≤ 32767 := by
  cases hg : fcmp .gtr .f32 (scU vs k) 0
  · rw [qz_n hg]; decide
  · rw [qz_y hg]; exact qI_le h hg hj
/-- A number that is unpacked, before it is narrowed. -/
def unX (s : Nat) (q : Int) : Nat := fop .mul .f64 (up s) (fop .quo .f64 (FloatKind.f64.nearest q) rw5)
theorem near_ule {q : Int} (h : -32767 ≤ q ∧ q ≤ 32767) : ule (FloatKind.f64.nearest q) (units Ieee.double rw5) := by
  obtain ⟨c, hc4, hu⟩ := uw_pow
  obtain ⟨r', g1, g2⟩ := nearest_le Ieee.double (decide (q < 0)) (m := q.natAbs) (r := rw5) (a := 0) (b := c) (e := 0)
    (by have : Ieee.double.leastPlace = -1074 := by decide
        rw [this]; omega)
    (by rw [hu, Nat.pow_zero, Nat.mul_one]; exact Nat.mul_le_mul_right _ (by omega))
  have e : FloatKind.f64.nearest q = Ieee.double.nearest (decide (q < 0)) q.natAbs 0 := rfl
  rw [e, g1]
  exact ule_word _ g2 (by decide)
theorem unX_ule {s : Nat} {q : Int} (hs : rng Ieee.single s < Ieee.single.infRung) (h : -32767 ≤ q ∧ q ≤ 32767) : ule (unX s q) (units Ieee.double (rng Ieee.double (up s))) := by
  obtain ⟨_, k2, _⟩ := up_number hs
  have h1 := near_ule h
  have h2 := quo_ule (a := FloatKind.f64.nearest q) (b := rw5) (by rw [rw5_fin.2.2]; exact h1) rw5_fin.1 rw5_fin.2.1
  exact mul_le1 k2 h2
theorem unX_over {s : Nat} {q : Int} (hs : rng Ieee.single s < Ieee.single.infRung) (h : -32767 ≤ q ∧ q ≤ 32767) : fover .f64 .f32 (unX s q) = false := fover_ule hs (unX_ule hs h)
end Go.Proofs.Ytnommdpgmoljcaa


namespace Go.Proofs.Ytnommdpgmoljcaa
open Go.RowKit

/-- What comes of narrowing the double a. -/
def Nar (a v : Nat) : Prop := Can .f32 v ∧ (fover .f64 .f32 a = false → v = fconv .f64 .f32 a)
section
variable {P : Program} {w0 : World} {O : List Ent} {E : Env} {o : Oper}
theorem yn_narrow {src dst : TypeId} {x : Operand} {a : Nat} (ho : o.op = .convert src dst x) (hs : P.underlying src = some (.float .f64)) (hd : P.underlying dst = some (.float .f32)) (hx : E.opd x = some (.float .f64 a)) :
    YN P w0 O E o (fun v : {v : Nat // Nar a v} => .float .f32 v.1) (fun _ => []) := by
  intro ρ w hE hw
  cases hv : fover .f64 .f32 a with
  | false =>
    refine (yr_fconv (P := P) ho hs hd (by decide) hx hv ρ w hE).mono fun v w' ⟨h1, h2⟩ => ?_
    exact ⟨⟨fconv .f64 .f32 a, ⟨cb_fconv _ _ _ (by decide), fconv_lt _ _ _ (by decide)⟩, fun _ => rfl⟩, h1, h2, (fun _ hf => by cases hf), List.Pairwise.nil⟩
  | true =>
    obtain ⟨a', h1, rfl⟩ := cn_float (hE.get (x := x) (by simp [ho, Op.operands]) hx)
    have hv' := hv
    rw [fover_cb] at hv
    unfold fover at hv
    rw [if_neg (by decide)] at hv
    cases hr : FloatKind.f64.decode a' with
    | nan sg f => rw [hr] at hv; cases hv
    | infinity sg => rw [hr] at hv; cases hv
    | number sg m e =>
      rw [hr] at hv
      simp only at hv
      have hrun : (execOp ρ o).run P w = .ok (.value (.float .f32 ((Question.floatToFloat a').cut (w.tape w.drawn (.floatToFloat a'))))) { w with drawn := w.drawn + 1 } := by
        simp [execOp, ho, convert, run_underlying hs, run_underlying hd, h1, Conv.floatToFloat, hr, hv, choose, Sem.run, Question.forced]
      rw [hrun]
      have hlt : (Question.floatToFloat a').cut (w.tape w.drawn (.floatToFloat a')) < 2 ^ 32 := Nat.mod_lt _ (by decide)
      exact ⟨⟨cb .f32 ((Question.floatToFloat a').cut (w.tape w.drawn (.floatToFloat a'))), can_cb .f32 hlt, fun h => by rw [hv'] at h; cases h⟩, by simp [cn, cn1, cn0], below_drew _ _, (fun _ hf => by cases hf), List.Pairwise.nil⟩
end
end Go.Proofs.Ytnommdpgmoljcaa

