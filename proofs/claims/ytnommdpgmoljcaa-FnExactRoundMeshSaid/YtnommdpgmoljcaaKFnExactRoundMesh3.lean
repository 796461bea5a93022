/- Own texts of this claim, merged: WMeshB, Bits, Exact, Line, FinA, PackA, Bytes, PackB, PackC, AbsA. -/
import Derived.KernelRfl
import Derived.Laws.BytesString
import Derived.Test.YtnommdpgmoljcaaKFnExactRoundMesh2
namespace Go.Proofs.Ytnommdpgmoljcaa
open Go.RowKit
set_option linter.unusedVariables false
set_option linter.unusedSimpArgs false
set_option maxRecDepth 20000

theorem known87_MeshB : Known Try.prog 87 := Known.mk' Try.func87 (by kernel_rfl)
theorem known80_MeshB : Known Try.prog 80 := Known.mk' Try.func80 (by kernel_rfl)
theorem known81_MeshB : Known Try.prog 81 := Known.mk' Try.func81 (by kernel_rfl)
theorem sz27_MeshB : (Try.prog.info? 27).map (·.size) = some 3 := by kernel_rfl
theorem known75_MeshB : Known Try.prog 75 := Known.mk' Try.func75 (by kernel_rfl)
theorem sz23_MeshB : (Try.prog.info? 23).map (·.size) = some 1 := by kernel_rfl
theorem fb23_MeshB : flatB Try.prog 23 = true := by kernel_rfl
theorem known95_MeshB : Known Try.prog 95 := Known.mk' Try.func95 (by kernel_rfl)
theorem sz2_MeshB : (Try.prog.info? 2).map (·.size) = some 1 := by kernel_rfl
theorem fb2_MeshB : flatB Try.prog 2 = true := by kernel_rfl
theorem known43_MeshB : Known Try.prog 43 := Known.mk' Try.func43 (by kernel_rfl)
theorem sz28_MeshB : (Try.prog.info? 28).map (·.size) = some 1 := by kernel_rfl
theorem fb28_MeshB : flatB Try.prog 28 = true := by kernel_rfl
theorem mixed_MeshB : Try.prog.follows .mixedOrders = true := by kernel_rfl
theorem known36_MeshB : Known Try.prog 36 := Known.mk' Try.func36 (by kernel_rfl)
theorem known37_MeshB : Known Try.prog 37 := Known.mk' Try.func37 (by kernel_rfl)
theorem known38_MeshB : Known Try.prog 38 := Known.mk' Try.func38 (by kernel_rfl)
theorem sz43_MeshB : (Try.prog.info? 43).map (·.size) = some 1 := by kernel_rfl
theorem fb43_MeshB : flatB Try.prog 43 = true := by kernel_rfl
theorem known59_MeshB : Known Try.prog 59 := Known.mk' Try.func59 (by kernel_rfl)
theorem zero30_MeshB : (Try.prog.info? 30).bind (·.zero) = some (Value.agg #[Value.float .f32 0, Value.float .f32 0, Value.float .f32 0, Value.float .f32 0, Value.int .i64 0, Value.int .i64 0, Value.int .i64 0, Value.slice none 0 0]) := by kernel_rfl
theorem sz25_MeshB : (Try.prog.info? 25).map (·.size) = some 3 := by kernel_rfl
theorem known11_MeshB : Known Try.prog 11 := Known.mk' Try.func11 (by kernel_rfl)
theorem known61_MeshB : Known Try.prog 61 := Known.mk' Try.func61 (by kernel_rfl)
theorem sz30_MeshB : (Try.prog.info? 30).map (·.size) = some 8 := by kernel_rfl
theorem known49_MeshB : Known Try.prog 49 := Known.mk' Try.func49 (by kernel_rfl)
theorem known33_MeshB : Known Try.prog 33 := Known.mk' Try.func33 (by kernel_rfl)
theorem known50_MeshB : Known Try.prog 50 := Known.mk' Try.func50 (by kernel_rfl)
attribute [local irreducible] fop fcmp fconv sqrt32 fneg segF fieldS fieldI List.getD

theorem c_isMS {w : World} {n : Int} : Pure Try.prog 43 [.int .i64 n] w (.bool (decide (1 ≤ n ∧ n ≤ 216))) := by
  refine Pure.enter Try.func43 rfl Try.ntmps43 (Nat.le_of_ble_eq_true rfl) ?_
  refine V.seq ?_
  refine V.region ?_
  refine VL.r (.inl rfl) rfl (by decide) (yr_assign (u := .bool false) rfl rfl) ?_
  refine VL.nil ?_
  refine VE.then_wp ?_
  refine V.seq ?_
  refine V.region ?_
  refine VL.r (.inl rfl) rfl (by decide) (yr_move rfl rfl) ?_
  refine VL.q (.inl rfl) rfl (by decide) (yq_callf rfl known87_MeshB (.cons rfl (.cons rfl (.cons rfl .nil))) (fun w hw => c_within)) ?_
  refine VL.r (.inl rfl) rfl (by decide) (yr_assign rfl rfl) ?_
  refine VL.nil ?_
  refine VE.then_wp ?_
  refine V.ret ?_
  refine ret1 rfl rfl (fun w1 hw => ?_)
  exact ⟨rfl, hw.below⟩

theorem c_l02Size {w : World} (x : Nat) : Pure Try.prog 37 [.float .f32 x] w (.bool (above x)) := by
  refine Pure.enter Try.func37 rfl Try.ntmps37 (Nat.le_of_ble_eq_true rfl) ?_
  refine V.seq ?_
  refine V.region ?_
  refine VL.r (.inl rfl) rfl (by decide) (yr_assign (u := .bool false) rfl rfl) ?_
  refine VL.nil ?_
  refine VE.then_wp ?_
  refine V.seq ?_
  refine V.region ?_
  refine VL.r (.inl rfl) rfl (by decide) (yr_move rfl rfl) ?_
  refine VL.q (.inl rfl) rfl (by decide) (yq_callf rfl known80_MeshB (.cons rfl .nil) (fun w hw => c_l01Finite _)) ?_
  refine VL.r (.inl rfl) rfl (by decide) (yr_move rfl rfl) ?_
  refine VX.split 5 _ rfl (fun h1 => ?_) (fun h1 => ?_)
  · skip
    refine VL.r (.inr ⟨_, _, _, rfl, rfl, rfl⟩) rfl (by decide) (yr_move rfl rfl) ?_
    refine VL.r (.inr ⟨_, _, _, rfl, rfl, rfl⟩) rfl (by decide) (yr_fcmp (b := 0) rfl (.inr (.inr (.inr (.inr (.inl rfl))))) rfl rfl) ?_
    refine VL.r (.inl rfl) rfl (by decide) (yr_pick_t rfl rfl rfl) ?_
    refine VL.r (.inl rfl) rfl (by decide) (yr_assign rfl rfl) ?_
    refine VL.nil ?_
    refine VE.then_wp ?_
    refine V.ret ?_
    refine ret1 rfl rfl (fun w1 hw => ?_)
    exact ⟨by simp only [above, *, Bool.true_and], hw.below⟩
  · skip
    refine VL.no rfl rfl rfl rfl rfl (by decide) ?_
    refine VL.no rfl rfl rfl rfl rfl (by decide) ?_
    refine VL.r (.inl rfl) rfl (by decide) (yr_pick_f (u := .bool false) rfl rfl rfl) ?_
    refine VL.r (.inl rfl) rfl (by decide) (yr_assign rfl rfl) ?_
    refine VL.nil ?_
    refine VE.then_wp ?_
    refine V.ret ?_
    refine ret1 rfl rfl (fun w1 hw => ?_)
    exact ⟨by simp only [above, *, Bool.false_and], hw.below⟩

theorem c_l06Sizes {w : World} {wi hi de : Int} : Pure Try.prog 38 [.int .i64 wi, .int .i64 hi, .int .i64 de] w (.bool (szOk wi hi de)) := by
  refine Pure.enter Try.func38 rfl Try.ntmps38 (Nat.le_of_ble_eq_true rfl) ?_
  refine V.seq ?_
  refine V.region ?_
  refine VL.r (.inl rfl) rfl (by decide) (yr_assign (u := .bool false) rfl rfl) ?_
  refine VL.nil ?_
  refine VE.then_wp ?_
  refine V.seq ?_
  refine V.region ?_
  refine VL.r (.inl rfl) rfl (by decide) (yr_move rfl rfl) ?_
  refine VL.q (.inl rfl) rfl (by decide) (yq_callf rfl known81_MeshB (.cons rfl (.cons rfl (.cons rfl .nil))) (fun w hw => c_l00In)) ?_
  refine VL.r (.inl rfl) rfl (by decide) (yr_move rfl rfl) ?_
  refine VX.split 9 _ rfl (fun h1 => ?_) (fun h1 => ?_)
  · skip
    refine VL.r (.inr ⟨_, _, _, rfl, rfl, rfl⟩) rfl (by decide) (yr_move rfl rfl) ?_
    refine VL.q (.inr ⟨_, _, _, rfl, rfl, rfl⟩) rfl (by decide) (yq_callf rfl known81_MeshB (.cons rfl (.cons rfl (.cons rfl .nil))) (fun w hw => c_l00In)) ?_
    refine VL.r (.inl rfl) rfl (by decide) (yr_pick_t rfl rfl rfl) ?_
    refine VL.r (.inl rfl) rfl (by decide) (yr_move rfl rfl) ?_
    refine VX.split 13 _ rfl (fun h2 => ?_) (fun h2 => ?_)
    · skip
      refine VL.r (.inr ⟨_, _, _, rfl, rfl, rfl⟩) rfl (by decide) (yr_move rfl rfl) ?_
      refine VL.q (.inr ⟨_, _, _, rfl, rfl, rfl⟩) rfl (by decide) (yq_callf rfl known81_MeshB (.cons rfl (.cons rfl (.cons rfl .nil))) (fun w hw => c_l00In)) ?_
      refine VL.r (.inl rfl) rfl (by decide) (yr_pick_t rfl rfl rfl) ?_
      refine VL.r (.inl rfl) rfl (by decide) (yr_move rfl rfl) ?_
      refine VX.split 17 _ rfl (fun h3 => ?_) (fun h3 => ?_)
      · skip
        have hb := mesh_mul (wi := wi) (hi := hi) (de := de) (by assumption) (by assumption) (by assumption)
        refine VL.r (.inr ⟨_, _, _, rfl, rfl, rfl⟩) rfl (by decide) (yr_move rfl rfl) ?_
        refine VL.r (.inr ⟨_, _, _, rfl, rfl, rfl⟩) rfl (by decide) (yr_move rfl rfl) ?_
        refine VL.r (.inr ⟨_, _, _, rfl, rfl, rfl⟩) rfl (by decide) (yr_int rfl rfl rfl (.inr (.inr ⟨rfl, wrap_in (by omega)⟩))) ?_
        refine VL.r (.inr ⟨_, _, _, rfl, rfl, rfl⟩) rfl (by decide) (yr_move rfl rfl) ?_
        refine VL.r (.inr ⟨_, _, _, rfl, rfl, rfl⟩) rfl (by decide) (yr_int rfl rfl rfl (.inr (.inr ⟨rfl, wrap_in (by omega)⟩))) ?_
        refine VL.r (.inr ⟨_, _, _, rfl, rfl, rfl⟩) rfl (by decide) (yr_icmp rfl (.inr (.inr (.inr (.inl rfl)))) rfl rfl) ?_
        refine VL.r (.inl rfl) rfl (by decide) (yr_pick_t rfl rfl rfl) ?_
        refine VL.r (.inl rfl) rfl (by decide) (yr_assign rfl rfl) ?_
        refine VL.nil ?_
        refine VE.then_wp ?_
        refine V.ret ?_
        refine ret1 rfl rfl (fun w1 hw => ?_)
        first
          | exact ⟨congrArg Value.bool (szOk_no1 (by assumption)), hw.below⟩
          | exact ⟨congrArg Value.bool (szOk_no2 (by assumption)), hw.below⟩
          | exact ⟨congrArg Value.bool (szOk_no3 (by assumption)), hw.below⟩
          | exact ⟨congrArg Value.bool (szOk_last (by assumption) (by assumption) (by assumption)), hw.below⟩
      · skip
        refine VL.no rfl rfl rfl rfl rfl (by decide) ?_
        refine VL.no rfl rfl rfl rfl rfl (by decide) ?_
        refine VL.no rfl rfl rfl rfl rfl (by decide) ?_
        refine VL.no rfl rfl rfl rfl rfl (by decide) ?_
        refine VL.no rfl rfl rfl rfl rfl (by decide) ?_
        refine VL.no rfl rfl rfl rfl rfl (by decide) ?_
        refine VL.r (.inl rfl) rfl (by decide) (yr_pick_f (u := .bool false) rfl rfl rfl) ?_
        refine VL.r (.inl rfl) rfl (by decide) (yr_assign rfl rfl) ?_
        refine VL.nil ?_
        refine VE.then_wp ?_
        refine V.ret ?_
        refine ret1 rfl rfl (fun w1 hw => ?_)
        first
          | exact ⟨congrArg Value.bool (szOk_no1 (by assumption)), hw.below⟩
          | exact ⟨congrArg Value.bool (szOk_no2 (by assumption)), hw.below⟩
          | exact ⟨congrArg Value.bool (szOk_no3 (by assumption)), hw.below⟩
          | exact ⟨congrArg Value.bool (szOk_last (by assumption) (by assumption) (by assumption)), hw.below⟩
    · skip
      refine VL.no rfl rfl rfl rfl rfl (by decide) ?_
      refine VL.no rfl rfl rfl rfl rfl (by decide) ?_
      refine VL.r (.inl rfl) rfl (by decide) (yr_pick_f (u := .bool false) rfl rfl rfl) ?_
      refine VL.r (.inl rfl) rfl (by decide) (yr_move rfl rfl) ?_
      refine VL.no rfl rfl rfl rfl rfl (by decide) ?_
      refine VL.no rfl rfl rfl rfl rfl (by decide) ?_
      refine VL.no rfl rfl rfl rfl rfl (by decide) ?_
      refine VL.no rfl rfl rfl rfl rfl (by decide) ?_
      refine VL.no rfl rfl rfl rfl rfl (by decide) ?_
      refine VL.no rfl rfl rfl rfl rfl (by decide) ?_
      refine VL.r (.inl rfl) rfl (by decide) (yr_pick_f (u := .bool false) rfl rfl rfl) ?_
      refine VL.r (.inl rfl) rfl (by decide) (yr_assign rfl rfl) ?_
      refine VL.nil ?_
      refine VE.then_wp ?_
      refine V.ret ?_
      refine ret1 rfl rfl (fun w1 hw => ?_)
      first
        | exact ⟨congrArg Value.bool (szOk_no1 (by assumption)), hw.below⟩
        | exact ⟨congrArg Value.bool (szOk_no2 (by assumption)), hw.below⟩
        | exact ⟨congrArg Value.bool (szOk_no3 (by assumption)), hw.below⟩
        | exact ⟨congrArg Value.bool (szOk_last (by assumption) (by assumption) (by assumption)), hw.below⟩
  · skip
    refine VL.no rfl rfl rfl rfl rfl (by decide) ?_
    refine VL.no rfl rfl rfl rfl rfl (by decide) ?_
    refine VL.r (.inl rfl) rfl (by decide) (yr_pick_f (u := .bool false) rfl rfl rfl) ?_
    refine VL.r (.inl rfl) rfl (by decide) (yr_move rfl rfl) ?_
    refine VL.no rfl rfl rfl rfl rfl (by decide) ?_
    refine VL.no rfl rfl rfl rfl rfl (by decide) ?_
    refine VL.r (.inl rfl) rfl (by decide) (yr_pick_f (u := .bool false) rfl rfl rfl) ?_
    refine VL.r (.inl rfl) rfl (by decide) (yr_move rfl rfl) ?_
    refine VL.no rfl rfl rfl rfl rfl (by decide) ?_
    refine VL.no rfl rfl rfl rfl rfl (by decide) ?_
    refine VL.no rfl rfl rfl rfl rfl (by decide) ?_
    refine VL.no rfl rfl rfl rfl rfl (by decide) ?_
    refine VL.no rfl rfl rfl rfl rfl (by decide) ?_
    refine VL.no rfl rfl rfl rfl rfl (by decide) ?_
    refine VL.r (.inl rfl) rfl (by decide) (yr_pick_f (u := .bool false) rfl rfl rfl) ?_
    refine VL.r (.inl rfl) rfl (by decide) (yr_assign rfl rfl) ?_
    refine VL.nil ?_
    refine VE.then_wp ?_
    refine V.ret ?_
    refine ret1 rfl rfl (fun w1 hw => ?_)
    first
      | exact ⟨congrArg Value.bool (szOk_no1 (by assumption)), hw.below⟩
      | exact ⟨congrArg Value.bool (szOk_no2 (by assumption)), hw.below⟩
      | exact ⟨congrArg Value.bool (szOk_no3 (by assumption)), hw.below⟩
      | exact ⟨congrArg Value.bool (szOk_last (by assumption) (by assumption) (by assumption)), hw.below⟩

theorem c_implMesh {w : World} {f1 f2 f3 st : Nat} {wi hi de : Int} {a : Option Addr} {m c : Nat} : Pure Try.prog 57 [.agg #[.float .f32 f1, .float .f32 f2, .float .f32 f3, .float .f32 st, .int .i64 wi, .int .i64 hi, .int .i64 de, .slice a m c]] w (.bool (meshOk (f1, f2, f3) st wi hi de m)) := by
  refine Pure.enter Try.func57 rfl Try.ntmps57 (Nat.le_of_ble_eq_true rfl) ?_
  refine V.seq ?_
  refine V.region ?_
  refine VL.new1 (.inl rfl) rfl (by decide) (yn_box rfl rfl (.inr ⟨rfl, rfl⟩)) ?_
  intro b1
  refine VL.r (.inl rfl) rfl (by decide) (yr_assign (u := .bool false) rfl rfl) ?_
  refine VL.nil ?_
  refine VE.then_wp ?_
  refine V.seq ?_
  refine V.region ?_
  refine VL.r (.inl rfl) rfl (by decide) (yr_fieldAddr rfl Try.underlying30 rfl rfl sz27_MeshB (by decide) rfl) ?_
  refine VL.q (.inl rfl) rfl (by decide) (yq_loadS rfl Try.underlying27 sz27_MeshB rfl (by first | exact Sees.root (by assumption) | exact Sees.own (by repeat (first | exact List.mem_cons_self | exact List.mem_append_left _ (by assumption) | apply List.mem_cons_of_mem | apply List.mem_append_right)) | exact Sees.root (hR _ (by omega)) | exact Sees.own (RowsIn.mem (by repeat (first | exact RowsIn.here | exact RowsIn.last | apply RowsIn.there | apply RowsIn.thereS)) _ (by omega)) | exact Sees.own (WRowsIn.mem (by repeat (first | exact WRowsIn.here | exact WRowsIn.last | apply WRowsIn.there | apply WRowsIn.thereS)) _ (by omega))) rfl rfl rfl) ?_
  refine VL.q (.inl rfl) rfl (by decide) (yq_callf rfl known75_MeshB (.cons rfl .nil) (fun w hw => c_fin3)) ?_
  refine VL.r (.inl rfl) rfl (by decide) (yr_move rfl rfl) ?_
  refine VX.split 6 _ rfl (fun h1 => ?_) (fun h1 => ?_)
  · skip
    refine VL.r (.inr ⟨_, _, _, rfl, rfl, rfl⟩) rfl (by decide) (yr_fieldAddr rfl Try.underlying30 rfl rfl sz23_MeshB (by decide) rfl) ?_
    refine VL.q (.inr ⟨_, _, _, rfl, rfl, rfl⟩) rfl (by decide) (yq_load rfl fb23_MeshB rfl (by first | exact Sees.root (by assumption) | exact Sees.own (by repeat (first | exact List.mem_cons_self | exact List.mem_append_left _ (by assumption) | apply List.mem_cons_of_mem | apply List.mem_append_right)) | exact Sees.root (hR _ (by omega)) | exact Sees.own (RowsIn.mem (by repeat (first | exact RowsIn.here | exact RowsIn.last | apply RowsIn.there | apply RowsIn.thereS)) _ (by omega)) | exact Sees.own (WRowsIn.mem (by repeat (first | exact WRowsIn.here | exact WRowsIn.last | apply WRowsIn.there | apply WRowsIn.thereS)) _ (by omega))) rfl) ?_
    refine VL.q (.inr ⟨_, _, _, rfl, rfl, rfl⟩) rfl (by decide) (yq_callf rfl known95_MeshB (.cons rfl .nil) (fun w hw => c_isLength _)) ?_
    refine VL.r (.inl rfl) rfl (by decide) (yr_pick_t rfl rfl rfl) ?_
    refine VL.r (.inl rfl) rfl (by decide) (yr_move rfl rfl) ?_
    refine VX.split 11 _ rfl (fun h2 => ?_) (fun h2 => ?_)
    · skip
      refine VL.r (.inr ⟨_, _, _, rfl, rfl, rfl⟩) rfl (by decide) (yr_fieldAddr rfl Try.underlying30 rfl rfl sz2_MeshB (by decide) rfl) ?_
      refine VL.q (.inr ⟨_, _, _, rfl, rfl, rfl⟩) rfl (by decide) (yq_load rfl fb2_MeshB rfl (by first | exact Sees.root (by assumption) | exact Sees.own (by repeat (first | exact List.mem_cons_self | exact List.mem_append_left _ (by assumption) | apply List.mem_cons_of_mem | apply List.mem_append_right)) | exact Sees.root (hR _ (by omega)) | exact Sees.own (RowsIn.mem (by repeat (first | exact RowsIn.here | exact RowsIn.last | apply RowsIn.there | apply RowsIn.thereS)) _ (by omega)) | exact Sees.own (WRowsIn.mem (by repeat (first | exact WRowsIn.here | exact WRowsIn.last | apply WRowsIn.there | apply WRowsIn.thereS)) _ (by omega))) rfl) ?_
      refine VL.q (.inr ⟨_, _, _, rfl, rfl, rfl⟩) rfl (by decide) (yq_callf rfl known43_MeshB (.cons rfl .nil) (fun w hw => c_isMS)) ?_
      refine VL.r (.inl rfl) rfl (by decide) (yr_pick_t rfl rfl rfl) ?_
      refine VL.r (.inl rfl) rfl (by decide) (yr_move rfl rfl) ?_
      refine VX.split 16 _ rfl (fun h3 => ?_) (fun h3 => ?_)
      · skip
        refine VL.r (.inr ⟨_, _, _, rfl, rfl, rfl⟩) rfl (by decide) (yr_fieldAddr rfl Try.underlying30 rfl rfl sz2_MeshB (by decide) rfl) ?_
        refine VL.q (.inr ⟨_, _, _, rfl, rfl, rfl⟩) rfl (by decide) (yq_load rfl fb2_MeshB rfl (by first | exact Sees.root (by assumption) | exact Sees.own (by repeat (first | exact List.mem_cons_self | exact List.mem_append_left _ (by assumption) | apply List.mem_cons_of_mem | apply List.mem_append_right)) | exact Sees.root (hR _ (by omega)) | exact Sees.own (RowsIn.mem (by repeat (first | exact RowsIn.here | exact RowsIn.last | apply RowsIn.there | apply RowsIn.thereS)) _ (by omega)) | exact Sees.own (WRowsIn.mem (by repeat (first | exact WRowsIn.here | exact WRowsIn.last | apply WRowsIn.there | apply WRowsIn.thereS)) _ (by omega))) rfl) ?_
        refine VL.q (.inr ⟨_, _, _, rfl, rfl, rfl⟩) rfl (by decide) (yq_callf rfl known43_MeshB (.cons rfl .nil) (fun w hw => c_isMS)) ?_
        refine VL.r (.inl rfl) rfl (by decide) (yr_pick_t rfl rfl rfl) ?_
        refine VL.r (.inl rfl) rfl (by decide) (yr_move rfl rfl) ?_
        refine VX.split 21 _ rfl (fun h4 => ?_) (fun h4 => ?_)
        · skip
          refine VL.r (.inr ⟨_, _, _, rfl, rfl, rfl⟩) rfl (by decide) (yr_fieldAddr rfl Try.underlying30 rfl rfl sz2_MeshB (by decide) rfl) ?_
          refine VL.q (.inr ⟨_, _, _, rfl, rfl, rfl⟩) rfl (by decide) (yq_load rfl fb2_MeshB rfl (by first | exact Sees.root (by assumption) | exact Sees.own (by repeat (first | exact List.mem_cons_self | exact List.mem_append_left _ (by assumption) | apply List.mem_cons_of_mem | apply List.mem_append_right)) | exact Sees.root (hR _ (by omega)) | exact Sees.own (RowsIn.mem (by repeat (first | exact RowsIn.here | exact RowsIn.last | apply RowsIn.there | apply RowsIn.thereS)) _ (by omega)) | exact Sees.own (WRowsIn.mem (by repeat (first | exact WRowsIn.here | exact WRowsIn.last | apply WRowsIn.there | apply WRowsIn.thereS)) _ (by omega))) rfl) ?_
          refine VL.q (.inr ⟨_, _, _, rfl, rfl, rfl⟩) rfl (by decide) (yq_callf rfl known43_MeshB (.cons rfl .nil) (fun w hw => c_isMS)) ?_
          refine VL.r (.inl rfl) rfl (by decide) (yr_pick_t rfl rfl rfl) ?_
          refine VL.r (.inl rfl) rfl (by decide) (yr_move rfl rfl) ?_
          refine VX.split 26 _ rfl (fun h5 => ?_) (fun h5 => ?_)
          · skip
            have hb := mesh_mul (wi := wi) (hi := hi) (de := de) (by assumption) (by assumption) (by assumption)
            refine VL.r (.inr ⟨_, _, _, rfl, rfl, rfl⟩) rfl (by decide) (yr_fieldAddr rfl Try.underlying30 rfl rfl sz2_MeshB (by decide) rfl) ?_
            refine VL.q (.inr ⟨_, _, _, rfl, rfl, rfl⟩) rfl (by decide) (yq_load rfl fb2_MeshB rfl (by first | exact Sees.root (by assumption) | exact Sees.own (by repeat (first | exact List.mem_cons_self | exact List.mem_append_left _ (by assumption) | apply List.mem_cons_of_mem | apply List.mem_append_right)) | exact Sees.root (hR _ (by omega)) | exact Sees.own (RowsIn.mem (by repeat (first | exact RowsIn.here | exact RowsIn.last | apply RowsIn.there | apply RowsIn.thereS)) _ (by omega)) | exact Sees.own (WRowsIn.mem (by repeat (first | exact WRowsIn.here | exact WRowsIn.last | apply WRowsIn.there | apply WRowsIn.thereS)) _ (by omega))) rfl) ?_
            refine VL.r (.inr ⟨_, _, _, rfl, rfl, rfl⟩) rfl (by decide) (yr_fieldAddr rfl Try.underlying30 rfl rfl sz2_MeshB (by decide) rfl) ?_
            refine VL.q (.inr ⟨_, _, _, rfl, rfl, rfl⟩) rfl (by decide) (yq_load rfl fb2_MeshB rfl (by first | exact Sees.root (by assumption) | exact Sees.own (by repeat (first | exact List.mem_cons_self | exact List.mem_append_left _ (by assumption) | apply List.mem_cons_of_mem | apply List.mem_append_right)) | exact Sees.root (hR _ (by omega)) | exact Sees.own (RowsIn.mem (by repeat (first | exact RowsIn.here | exact RowsIn.last | apply RowsIn.there | apply RowsIn.thereS)) _ (by omega)) | exact Sees.own (WRowsIn.mem (by repeat (first | exact WRowsIn.here | exact WRowsIn.last | apply WRowsIn.there | apply WRowsIn.thereS)) _ (by omega))) rfl) ?_
            refine VL.r (.inr ⟨_, _, _, rfl, rfl, rfl⟩) rfl (by decide) (yr_int rfl rfl rfl (.inr (.inr ⟨rfl, wrap_in (by omega)⟩))) ?_
            refine VL.r (.inr ⟨_, _, _, rfl, rfl, rfl⟩) rfl (by decide) (yr_fieldAddr rfl Try.underlying30 rfl rfl sz2_MeshB (by decide) rfl) ?_
            refine VL.q (.inr ⟨_, _, _, rfl, rfl, rfl⟩) rfl (by decide) (yq_load rfl fb2_MeshB rfl (by first | exact Sees.root (by assumption) | exact Sees.own (by repeat (first | exact List.mem_cons_self | exact List.mem_append_left _ (by assumption) | apply List.mem_cons_of_mem | apply List.mem_append_right)) | exact Sees.root (hR _ (by omega)) | exact Sees.own (RowsIn.mem (by repeat (first | exact RowsIn.here | exact RowsIn.last | apply RowsIn.there | apply RowsIn.thereS)) _ (by omega)) | exact Sees.own (WRowsIn.mem (by repeat (first | exact WRowsIn.here | exact WRowsIn.last | apply WRowsIn.there | apply WRowsIn.thereS)) _ (by omega))) rfl) ?_
            refine VL.r (.inr ⟨_, _, _, rfl, rfl, rfl⟩) rfl (by decide) (yr_int rfl rfl rfl (.inr (.inr ⟨rfl, wrap_in (by omega)⟩))) ?_
            refine VL.r (.inr ⟨_, _, _, rfl, rfl, rfl⟩) rfl (by decide) (yr_icmp rfl (.inr (.inr (.inr (.inl rfl)))) rfl rfl) ?_
            refine VL.r (.inl rfl) rfl (by decide) (yr_pick_t rfl rfl rfl) ?_
            refine VL.r (.inl rfl) rfl (by decide) (yr_move rfl rfl) ?_
            refine VX.split 37 _ rfl (fun h6 => ?_) (fun h6 => ?_)
            · skip
              replace h6 := ic_leq h6
              refine VL.r (.inr ⟨_, _, _, rfl, rfl, rfl⟩) rfl (by decide) (yr_fieldAddr rfl Try.underlying30 rfl rfl sz28_MeshB (by decide) rfl) ?_
              refine VL.q (.inr ⟨_, _, _, rfl, rfl, rfl⟩) rfl (by decide) (yq_load rfl fb28_MeshB rfl (by first | exact Sees.root (by assumption) | exact Sees.own (by repeat (first | exact List.mem_cons_self | exact List.mem_append_left _ (by assumption) | apply List.mem_cons_of_mem | apply List.mem_append_right)) | exact Sees.root (hR _ (by omega)) | exact Sees.own (RowsIn.mem (by repeat (first | exact RowsIn.here | exact RowsIn.last | apply RowsIn.there | apply RowsIn.thereS)) _ (by omega)) | exact Sees.own (WRowsIn.mem (by repeat (first | exact WRowsIn.here | exact WRowsIn.last | apply WRowsIn.there | apply WRowsIn.thereS)) _ (by omega))) rfl) ?_
              refine VL.r (.inr ⟨_, _, _, rfl, rfl, rfl⟩) rfl (by decide) (yr_len rfl Try.underlying28 rfl) ?_
              refine VL.r (.inr ⟨_, _, _, rfl, rfl, rfl⟩) rfl (by decide) (yr_fieldAddr rfl Try.underlying30 rfl rfl sz2_MeshB (by decide) rfl) ?_
              refine VL.q (.inr ⟨_, _, _, rfl, rfl, rfl⟩) rfl (by decide) (yq_load rfl fb2_MeshB rfl (by first | exact Sees.root (by assumption) | exact Sees.own (by repeat (first | exact List.mem_cons_self | exact List.mem_append_left _ (by assumption) | apply List.mem_cons_of_mem | apply List.mem_append_right)) | exact Sees.root (hR _ (by omega)) | exact Sees.own (RowsIn.mem (by repeat (first | exact RowsIn.here | exact RowsIn.last | apply RowsIn.there | apply RowsIn.thereS)) _ (by omega)) | exact Sees.own (WRowsIn.mem (by repeat (first | exact WRowsIn.here | exact WRowsIn.last | apply WRowsIn.there | apply WRowsIn.thereS)) _ (by omega))) rfl) ?_
              refine VL.r (.inr ⟨_, _, _, rfl, rfl, rfl⟩) rfl (by decide) (yr_fieldAddr rfl Try.underlying30 rfl rfl sz2_MeshB (by decide) rfl) ?_
              refine VL.q (.inr ⟨_, _, _, rfl, rfl, rfl⟩) rfl (by decide) (yq_load rfl fb2_MeshB rfl (by first | exact Sees.root (by assumption) | exact Sees.own (by repeat (first | exact List.mem_cons_self | exact List.mem_append_left _ (by assumption) | apply List.mem_cons_of_mem | apply List.mem_append_right)) | exact Sees.root (hR _ (by omega)) | exact Sees.own (RowsIn.mem (by repeat (first | exact RowsIn.here | exact RowsIn.last | apply RowsIn.there | apply RowsIn.thereS)) _ (by omega)) | exact Sees.own (WRowsIn.mem (by repeat (first | exact WRowsIn.here | exact WRowsIn.last | apply WRowsIn.there | apply WRowsIn.thereS)) _ (by omega))) rfl) ?_
              refine VL.r (.inr ⟨_, _, _, rfl, rfl, rfl⟩) rfl (by decide) (yr_int rfl rfl rfl (.inr (.inr ⟨rfl, wrap_in (by omega)⟩))) ?_
              refine VL.r (.inr ⟨_, _, _, rfl, rfl, rfl⟩) rfl (by decide) (yr_fieldAddr rfl Try.underlying30 rfl rfl sz2_MeshB (by decide) rfl) ?_
              refine VL.q (.inr ⟨_, _, _, rfl, rfl, rfl⟩) rfl (by decide) (yq_load rfl fb2_MeshB rfl (by first | exact Sees.root (by assumption) | exact Sees.own (by repeat (first | exact List.mem_cons_self | exact List.mem_append_left _ (by assumption) | apply List.mem_cons_of_mem | apply List.mem_append_right)) | exact Sees.root (hR _ (by omega)) | exact Sees.own (RowsIn.mem (by repeat (first | exact RowsIn.here | exact RowsIn.last | apply RowsIn.there | apply RowsIn.thereS)) _ (by omega)) | exact Sees.own (WRowsIn.mem (by repeat (first | exact WRowsIn.here | exact WRowsIn.last | apply WRowsIn.there | apply WRowsIn.thereS)) _ (by omega))) rfl) ?_
              refine VL.r (.inr ⟨_, _, _, rfl, rfl, rfl⟩) rfl (by decide) (yr_int rfl rfl rfl (.inr (.inr ⟨rfl, wrap_in (by omega)⟩))) ?_
              refine VL.r (.inr ⟨_, _, _, rfl, rfl, rfl⟩) rfl (by decide) (yr_icmp rfl (.inl rfl) rfl rfl) ?_
              refine VL.r (.inl rfl) rfl (by decide) (yr_pick_t rfl rfl rfl) ?_
              refine VL.r (.inl rfl) rfl (by decide) (yr_assign rfl rfl) ?_
              refine VL.nil ?_
              refine VE.then_wp ?_
              refine V.ret ?_
              refine ret1 rfl rfl (fun w1 hw => ?_)
              first
                | exact ⟨congrArg Value.bool (meshOk_no1 (f := (f1, f2, f3)) (by assumption)), hw.below⟩
                | exact ⟨congrArg Value.bool (meshOk_no2 (by assumption)), hw.below⟩
                | exact ⟨congrArg Value.bool (meshOk_no3 (by assumption)), hw.below⟩
                | exact ⟨congrArg Value.bool (meshOk_no3 (szOk_no1 (by assumption)).symm), hw.below⟩
                | exact ⟨congrArg Value.bool (meshOk_no3 (szOk_no2 (by assumption)).symm), hw.below⟩
                | exact ⟨congrArg Value.bool (meshOk_no3 (szOk_no3 (by assumption)).symm), hw.below⟩
                | exact ⟨congrArg Value.bool (meshOk_no3 (szOk_no4 (by omega))), hw.below⟩
                | exact ⟨congrArg Value.bool (meshOk_last (f := (f1, f2, f3)) (by assumption) (by assumption) (by assumption)), hw.below⟩
                | exact ⟨congrArg Value.bool (meshOk_last (f := (f1, f2, f3)) (by assumption) (by assumption) (szOk_yes (by assumption) (by assumption) (by assumption) (by omega))), hw.below⟩
            · skip
              replace h6 := ic_leq' h6
              refine VL.no rfl rfl rfl rfl rfl (by decide) ?_
              refine VL.no rfl rfl rfl rfl rfl (by decide) ?_
              refine VL.no rfl rfl rfl rfl rfl (by decide) ?_
              refine VL.no rfl rfl rfl rfl rfl (by decide) ?_
              refine VL.no rfl rfl rfl rfl rfl (by decide) ?_
              refine VL.no rfl rfl rfl rfl rfl (by decide) ?_
              refine VL.no rfl rfl rfl rfl rfl (by decide) ?_
              refine VL.no rfl rfl rfl rfl rfl (by decide) ?_
              refine VL.no rfl rfl rfl rfl rfl (by decide) ?_
              refine VL.no rfl rfl rfl rfl rfl (by decide) ?_
              refine VL.no rfl rfl rfl rfl rfl (by decide) ?_
              refine VL.no rfl rfl rfl rfl rfl (by decide) ?_
              refine VL.r (.inl rfl) rfl (by decide) (yr_pick_f (u := .bool false) rfl rfl rfl) ?_
              refine VL.r (.inl rfl) rfl (by decide) (yr_assign rfl rfl) ?_
              refine VL.nil ?_
              refine VE.then_wp ?_
              refine V.ret ?_
              refine ret1 rfl rfl (fun w1 hw => ?_)
              first
                | exact ⟨congrArg Value.bool (meshOk_no1 (f := (f1, f2, f3)) (by assumption)), hw.below⟩
                | exact ⟨congrArg Value.bool (meshOk_no2 (by assumption)), hw.below⟩
                | exact ⟨congrArg Value.bool (meshOk_no3 (by assumption)), hw.below⟩
                | exact ⟨congrArg Value.bool (meshOk_no3 (szOk_no1 (by assumption)).symm), hw.below⟩
                | exact ⟨congrArg Value.bool (meshOk_no3 (szOk_no2 (by assumption)).symm), hw.below⟩
                | exact ⟨congrArg Value.bool (meshOk_no3 (szOk_no3 (by assumption)).symm), hw.below⟩
                | exact ⟨congrArg Value.bool (meshOk_no3 (szOk_no4 (by omega))), hw.below⟩
                | exact ⟨congrArg Value.bool (meshOk_last (f := (f1, f2, f3)) (by assumption) (by assumption) (by assumption)), hw.below⟩
                | exact ⟨congrArg Value.bool (meshOk_last (f := (f1, f2, f3)) (by assumption) (by assumption) (szOk_yes (by assumption) (by assumption) (by assumption) (by omega))), hw.below⟩
          · skip
            refine VL.no rfl rfl rfl rfl rfl (by decide) ?_
            refine VL.no rfl rfl rfl rfl rfl (by decide) ?_
            refine VL.no rfl rfl rfl rfl rfl (by decide) ?_
            refine VL.no rfl rfl rfl rfl rfl (by decide) ?_
            refine VL.no rfl rfl rfl rfl rfl (by decide) ?_
            refine VL.no rfl rfl rfl rfl rfl (by decide) ?_
            refine VL.no rfl rfl rfl rfl rfl (by decide) ?_
            refine VL.no rfl rfl rfl rfl rfl (by decide) ?_
            refine VL.no rfl rfl rfl rfl rfl (by decide) ?_
            refine VL.r (.inl rfl) rfl (by decide) (yr_pick_f (u := .bool false) rfl rfl rfl) ?_
            refine VL.r (.inl rfl) rfl (by decide) (yr_move rfl rfl) ?_
            refine VL.no rfl rfl rfl rfl rfl (by decide) ?_
            refine VL.no rfl rfl rfl rfl rfl (by decide) ?_
            refine VL.no rfl rfl rfl rfl rfl (by decide) ?_
            refine VL.no rfl rfl rfl rfl rfl (by decide) ?_
            refine VL.no rfl rfl rfl rfl rfl (by decide) ?_
            refine VL.no rfl rfl rfl rfl rfl (by decide) ?_
            refine VL.no rfl rfl rfl rfl rfl (by decide) ?_
            refine VL.no rfl rfl rfl rfl rfl (by decide) ?_
            refine VL.no rfl rfl rfl rfl rfl (by decide) ?_
            refine VL.no rfl rfl rfl rfl rfl (by decide) ?_
            refine VL.no rfl rfl rfl rfl rfl (by decide) ?_
            refine VL.no rfl rfl rfl rfl rfl (by decide) ?_
            refine VL.r (.inl rfl) rfl (by decide) (yr_pick_f (u := .bool false) rfl rfl rfl) ?_
            refine VL.r (.inl rfl) rfl (by decide) (yr_assign rfl rfl) ?_
            refine VL.nil ?_
            refine VE.then_wp ?_
            refine V.ret ?_
            refine ret1 rfl rfl (fun w1 hw => ?_)
            first
              | exact ⟨congrArg Value.bool (meshOk_no1 (f := (f1, f2, f3)) (by assumption)), hw.below⟩
              | exact ⟨congrArg Value.bool (meshOk_no2 (by assumption)), hw.below⟩
              | exact ⟨congrArg Value.bool (meshOk_no3 (by assumption)), hw.below⟩
              | exact ⟨congrArg Value.bool (meshOk_no3 (szOk_no1 (by assumption)).symm), hw.below⟩
              | exact ⟨congrArg Value.bool (meshOk_no3 (szOk_no2 (by assumption)).symm), hw.below⟩
              | exact ⟨congrArg Value.bool (meshOk_no3 (szOk_no3 (by assumption)).symm), hw.below⟩
              | exact ⟨congrArg Value.bool (meshOk_no3 (szOk_no4 (by omega))), hw.below⟩
              | exact ⟨congrArg Value.bool (meshOk_last (f := (f1, f2, f3)) (by assumption) (by assumption) (by assumption)), hw.below⟩
              | exact ⟨congrArg Value.bool (meshOk_last (f := (f1, f2, f3)) (by assumption) (by assumption) (szOk_yes (by assumption) (by assumption) (by assumption) (by omega))), hw.below⟩
        · skip
          refine VL.no rfl rfl rfl rfl rfl (by decide) ?_
          refine VL.no rfl rfl rfl rfl rfl (by decide) ?_
          refine VL.no rfl rfl rfl rfl rfl (by decide) ?_
          refine VL.r (.inl rfl) rfl (by decide) (yr_pick_f (u := .bool false) rfl rfl rfl) ?_
          refine VL.r (.inl rfl) rfl (by decide) (yr_move rfl rfl) ?_
          refine VL.no rfl rfl rfl rfl rfl (by decide) ?_
          refine VL.no rfl rfl rfl rfl rfl (by decide) ?_
          refine VL.no rfl rfl rfl rfl rfl (by decide) ?_
          refine VL.no rfl rfl rfl rfl rfl (by decide) ?_
          refine VL.no rfl rfl rfl rfl rfl (by decide) ?_
          refine VL.no rfl rfl rfl rfl rfl (by decide) ?_
          refine VL.no rfl rfl rfl rfl rfl (by decide) ?_
          refine VL.no rfl rfl rfl rfl rfl (by decide) ?_
          refine VL.no rfl rfl rfl rfl rfl (by decide) ?_
          refine VL.r (.inl rfl) rfl (by decide) (yr_pick_f (u := .bool false) rfl rfl rfl) ?_
          refine VL.r (.inl rfl) rfl (by decide) (yr_move rfl rfl) ?_
          refine VL.no rfl rfl rfl rfl rfl (by decide) ?_
          refine VL.no rfl rfl rfl rfl rfl (by decide) ?_
          refine VL.no rfl rfl rfl rfl rfl (by decide) ?_
          refine VL.no rfl rfl rfl rfl rfl (by decide) ?_
          refine VL.no rfl rfl rfl rfl rfl (by decide) ?_
          refine VL.no rfl rfl rfl rfl rfl (by decide) ?_
          refine VL.no rfl rfl rfl rfl rfl (by decide) ?_
          refine VL.no rfl rfl rfl rfl rfl (by decide) ?_
          refine VL.no rfl rfl rfl rfl rfl (by decide) ?_
          refine VL.no rfl rfl rfl rfl rfl (by decide) ?_
          refine VL.no rfl rfl rfl rfl rfl (by decide) ?_
          refine VL.no rfl rfl rfl rfl rfl (by decide) ?_
          refine VL.r (.inl rfl) rfl (by decide) (yr_pick_f (u := .bool false) rfl rfl rfl) ?_
          refine VL.r (.inl rfl) rfl (by decide) (yr_assign rfl rfl) ?_
          refine VL.nil ?_
          refine VE.then_wp ?_
          refine V.ret ?_
          refine ret1 rfl rfl (fun w1 hw => ?_)
          first
            | exact ⟨congrArg Value.bool (meshOk_no1 (f := (f1, f2, f3)) (by assumption)), hw.below⟩
            | exact ⟨congrArg Value.bool (meshOk_no2 (by assumption)), hw.below⟩
            | exact ⟨congrArg Value.bool (meshOk_no3 (by assumption)), hw.below⟩
            | exact ⟨congrArg Value.bool (meshOk_no3 (szOk_no1 (by assumption)).symm), hw.below⟩
            | exact ⟨congrArg Value.bool (meshOk_no3 (szOk_no2 (by assumption)).symm), hw.below⟩
            | exact ⟨congrArg Value.bool (meshOk_no3 (szOk_no3 (by assumption)).symm), hw.below⟩
            | exact ⟨congrArg Value.bool (meshOk_no3 (szOk_no4 (by omega))), hw.below⟩
            | exact ⟨congrArg Value.bool (meshOk_last (f := (f1, f2, f3)) (by assumption) (by assumption) (by assumption)), hw.below⟩
            | exact ⟨congrArg Value.bool (meshOk_last (f := (f1, f2, f3)) (by assumption) (by assumption) (szOk_yes (by assumption) (by assumption) (by assumption) (by omega))), hw.below⟩
      · skip
        refine VL.no rfl rfl rfl rfl rfl (by decide) ?_
        refine VL.no rfl rfl rfl rfl rfl (by decide) ?_
        refine VL.no rfl rfl rfl rfl rfl (by decide) ?_
        refine VL.r (.inl rfl) rfl (by decide) (yr_pick_f (u := .bool false) rfl rfl rfl) ?_
        refine VL.r (.inl rfl) rfl (by decide) (yr_move rfl rfl) ?_
        refine VL.no rfl rfl rfl rfl rfl (by decide) ?_
        refine VL.no rfl rfl rfl rfl rfl (by decide) ?_
        refine VL.no rfl rfl rfl rfl rfl (by decide) ?_
        refine VL.r (.inl rfl) rfl (by decide) (yr_pick_f (u := .bool false) rfl rfl rfl) ?_
        refine VL.r (.inl rfl) rfl (by decide) (yr_move rfl rfl) ?_
        refine VL.no rfl rfl rfl rfl rfl (by decide) ?_
        refine VL.no rfl rfl rfl rfl rfl (by decide) ?_
        refine VL.no rfl rfl rfl rfl rfl (by decide) ?_
        refine VL.no rfl rfl rfl rfl rfl (by decide) ?_
        refine VL.no rfl rfl rfl rfl rfl (by decide) ?_
        refine VL.no rfl rfl rfl rfl rfl (by decide) ?_
        refine VL.no rfl rfl rfl rfl rfl (by decide) ?_
        refine VL.no rfl rfl rfl rfl rfl (by decide) ?_
        refine VL.no rfl rfl rfl rfl rfl (by decide) ?_
        refine VL.r (.inl rfl) rfl (by decide) (yr_pick_f (u := .bool false) rfl rfl rfl) ?_
        refine VL.r (.inl rfl) rfl (by decide) (yr_move rfl rfl) ?_
        refine VL.no rfl rfl rfl rfl rfl (by decide) ?_
        refine VL.no rfl rfl rfl rfl rfl (by decide) ?_
        refine VL.no rfl rfl rfl rfl rfl (by decide) ?_
        refine VL.no rfl rfl rfl rfl rfl (by decide) ?_
        refine VL.no rfl rfl rfl rfl rfl (by decide) ?_
        refine VL.no rfl rfl rfl rfl rfl (by decide) ?_
        refine VL.no rfl rfl rfl rfl rfl (by decide) ?_
        refine VL.no rfl rfl rfl rfl rfl (by decide) ?_
        refine VL.no rfl rfl rfl rfl rfl (by decide) ?_
        refine VL.no rfl rfl rfl rfl rfl (by decide) ?_
        refine VL.no rfl rfl rfl rfl rfl (by decide) ?_
        refine VL.no rfl rfl rfl rfl rfl (by decide) ?_
        refine VL.r (.inl rfl) rfl (by decide) (yr_pick_f (u := .bool false) rfl rfl rfl) ?_
        refine VL.r (.inl rfl) rfl (by decide) (yr_assign rfl rfl) ?_
        refine VL.nil ?_
        refine VE.then_wp ?_
        refine V.ret ?_
        refine ret1 rfl rfl (fun w1 hw => ?_)
        first
          | exact ⟨congrArg Value.bool (meshOk_no1 (f := (f1, f2, f3)) (by assumption)), hw.below⟩
          | exact ⟨congrArg Value.bool (meshOk_no2 (by assumption)), hw.below⟩
          | exact ⟨congrArg Value.bool (meshOk_no3 (by assumption)), hw.below⟩
          | exact ⟨congrArg Value.bool (meshOk_no3 (szOk_no1 (by assumption)).symm), hw.below⟩
          | exact ⟨congrArg Value.bool (meshOk_no3 (szOk_no2 (by assumption)).symm), hw.below⟩
          | exact ⟨congrArg Value.bool (meshOk_no3 (szOk_no3 (by assumption)).symm), hw.below⟩
          | exact ⟨congrArg Value.bool (meshOk_no3 (szOk_no4 (by omega))), hw.below⟩
          | exact ⟨congrArg Value.bool (meshOk_last (f := (f1, f2, f3)) (by assumption) (by assumption) (by assumption)), hw.below⟩
          | exact ⟨congrArg Value.bool (meshOk_last (f := (f1, f2, f3)) (by assumption) (by assumption) (szOk_yes (by assumption) (by assumption) (by assumption) (by omega))), hw.below⟩
    · skip
      refine VL.no rfl rfl rfl rfl rfl (by decide) ?_
      refine VL.no rfl rfl rfl rfl rfl (by decide) ?_
      refine VL.no rfl rfl rfl rfl rfl (by decide) ?_
      refine VL.r (.inl rfl) rfl (by decide) (yr_pick_f (u := .bool false) rfl rfl rfl) ?_
      refine VL.r (.inl rfl) rfl (by decide) (yr_move rfl rfl) ?_
      refine VL.no rfl rfl rfl rfl rfl (by decide) ?_
      refine VL.no rfl rfl rfl rfl rfl (by decide) ?_
      refine VL.no rfl rfl rfl rfl rfl (by decide) ?_
      refine VL.r (.inl rfl) rfl (by decide) (yr_pick_f (u := .bool false) rfl rfl rfl) ?_
      refine VL.r (.inl rfl) rfl (by decide) (yr_move rfl rfl) ?_
      refine VL.no rfl rfl rfl rfl rfl (by decide) ?_
      refine VL.no rfl rfl rfl rfl rfl (by decide) ?_
      refine VL.no rfl rfl rfl rfl rfl (by decide) ?_
      refine VL.r (.inl rfl) rfl (by decide) (yr_pick_f (u := .bool false) rfl rfl rfl) ?_
      refine VL.r (.inl rfl) rfl (by decide) (yr_move rfl rfl) ?_
      refine VL.no rfl rfl rfl rfl rfl (by decide) ?_
      refine VL.no rfl rfl rfl rfl rfl (by decide) ?_
      refine VL.no rfl rfl rfl rfl rfl (by decide) ?_
      refine VL.no rfl rfl rfl rfl rfl (by decide) ?_
      refine VL.no rfl rfl rfl rfl rfl (by decide) ?_
      refine VL.no rfl rfl rfl rfl rfl (by decide) ?_
      refine VL.no rfl rfl rfl rfl rfl (by decide) ?_
      refine VL.no rfl rfl rfl rfl rfl (by decide) ?_
      refine VL.no rfl rfl rfl rfl rfl (by decide) ?_
      refine VL.r (.inl rfl) rfl (by decide) (yr_pick_f (u := .bool false) rfl rfl rfl) ?_
      refine VL.r (.inl rfl) rfl (by decide) (yr_move rfl rfl) ?_
      refine VL.no rfl rfl rfl rfl rfl (by decide) ?_
      refine VL.no rfl rfl rfl rfl rfl (by decide) ?_
      refine VL.no rfl rfl rfl rfl rfl (by decide) ?_
      refine VL.no rfl rfl rfl rfl rfl (by decide) ?_
      refine VL.no rfl rfl rfl rfl rfl (by decide) ?_
      refine VL.no rfl rfl rfl rfl rfl (by decide) ?_
      refine VL.no rfl rfl rfl rfl rfl (by decide) ?_
      refine VL.no rfl rfl rfl rfl rfl (by decide) ?_
      refine VL.no rfl rfl rfl rfl rfl (by decide) ?_
      refine VL.no rfl rfl rfl rfl rfl (by decide) ?_
      refine VL.no rfl rfl rfl rfl rfl (by decide) ?_
      refine VL.no rfl rfl rfl rfl rfl (by decide) ?_
      refine VL.r (.inl rfl) rfl (by decide) (yr_pick_f (u := .bool false) rfl rfl rfl) ?_
      refine VL.r (.inl rfl) rfl (by decide) (yr_assign rfl rfl) ?_
      refine VL.nil ?_
      refine VE.then_wp ?_
      refine V.ret ?_
      refine ret1 rfl rfl (fun w1 hw => ?_)
      first
        | exact ⟨congrArg Value.bool (meshOk_no1 (f := (f1, f2, f3)) (by assumption)), hw.below⟩
        | exact ⟨congrArg Value.bool (meshOk_no2 (by assumption)), hw.below⟩
        | exact ⟨congrArg Value.bool (meshOk_no3 (by assumption)), hw.below⟩
        | exact ⟨congrArg Value.bool (meshOk_no3 (szOk_no1 (by assumption)).symm), hw.below⟩
        | exact ⟨congrArg Value.bool (meshOk_no3 (szOk_no2 (by assumption)).symm), hw.below⟩
        | exact ⟨congrArg Value.bool (meshOk_no3 (szOk_no3 (by assumption)).symm), hw.below⟩
        | exact ⟨congrArg Value.bool (meshOk_no3 (szOk_no4 (by omega))), hw.below⟩
        | exact ⟨congrArg Value.bool (meshOk_last (f := (f1, f2, f3)) (by assumption) (by assumption) (by assumption)), hw.below⟩
        | exact ⟨congrArg Value.bool (meshOk_last (f := (f1, f2, f3)) (by assumption) (by assumption) (szOk_yes (by assumption) (by assumption) (by assumption) (by omega))), hw.below⟩
  · skip
    refine VL.no rfl rfl rfl rfl rfl (by decide) ?_
    refine VL.no rfl rfl rfl rfl rfl (by decide) ?_
    refine VL.no rfl rfl rfl rfl rfl (by decide) ?_
    refine VL.r (.inl rfl) rfl (by decide) (yr_pick_f (u := .bool false) rfl rfl rfl) ?_
    refine VL.r (.inl rfl) rfl (by decide) (yr_move rfl rfl) ?_
    refine VL.no rfl rfl rfl rfl rfl (by decide) ?_
    refine VL.no rfl rfl rfl rfl rfl (by decide) ?_
    refine VL.no rfl rfl rfl rfl rfl (by decide) ?_
    refine VL.r (.inl rfl) rfl (by decide) (yr_pick_f (u := .bool false) rfl rfl rfl) ?_
    refine VL.r (.inl rfl) rfl (by decide) (yr_move rfl rfl) ?_
    refine VL.no rfl rfl rfl rfl rfl (by decide) ?_
    refine VL.no rfl rfl rfl rfl rfl (by decide) ?_
    refine VL.no rfl rfl rfl rfl rfl (by decide) ?_
    refine VL.r (.inl rfl) rfl (by decide) (yr_pick_f (u := .bool false) rfl rfl rfl) ?_
    refine VL.r (.inl rfl) rfl (by decide) (yr_move rfl rfl) ?_
    refine VL.no rfl rfl rfl rfl rfl (by decide) ?_
    refine VL.no rfl rfl rfl rfl rfl (by decide) ?_
    refine VL.no rfl rfl rfl rfl rfl (by decide) ?_
    refine VL.r (.inl rfl) rfl (by decide) (yr_pick_f (u := .bool false) rfl rfl rfl) ?_
    refine VL.r (.inl rfl) rfl (by decide) (yr_move rfl rfl) ?_
    refine VL.no rfl rfl rfl rfl rfl (by decide) ?_
    refine VL.no rfl rfl rfl rfl rfl (by decide) ?_
    refine VL.no rfl rfl rfl rfl rfl (by decide) ?_
    refine VL.no rfl rfl rfl rfl rfl (by decide) ?_
    refine VL.no rfl rfl rfl rfl rfl (by decide) ?_
    refine VL.no rfl rfl rfl rfl rfl (by decide) ?_
    refine VL.no rfl rfl rfl rfl rfl (by decide) ?_
    refine VL.no rfl rfl rfl rfl rfl (by decide) ?_
    refine VL.no rfl rfl rfl rfl rfl (by decide) ?_
    refine VL.r (.inl rfl) rfl (by decide) (yr_pick_f (u := .bool false) rfl rfl rfl) ?_
    refine VL.r (.inl rfl) rfl (by decide) (yr_move rfl rfl) ?_
    refine VL.no rfl rfl rfl rfl rfl (by decide) ?_
    refine VL.no rfl rfl rfl rfl rfl (by decide) ?_
    refine VL.no rfl rfl rfl rfl rfl (by decide) ?_
    refine VL.no rfl rfl rfl rfl rfl (by decide) ?_
    refine VL.no rfl rfl rfl rfl rfl (by decide) ?_
    refine VL.no rfl rfl rfl rfl rfl (by decide) ?_
    refine VL.no rfl rfl rfl rfl rfl (by decide) ?_
    refine VL.no rfl rfl rfl rfl rfl (by decide) ?_
    refine VL.no rfl rfl rfl rfl rfl (by decide) ?_
    refine VL.no rfl rfl rfl rfl rfl (by decide) ?_
    refine VL.no rfl rfl rfl rfl rfl (by decide) ?_
    refine VL.no rfl rfl rfl rfl rfl (by decide) ?_
    refine VL.r (.inl rfl) rfl (by decide) (yr_pick_f (u := .bool false) rfl rfl rfl) ?_
    refine VL.r (.inl rfl) rfl (by decide) (yr_assign rfl rfl) ?_
    refine VL.nil ?_
    refine VE.then_wp ?_
    refine V.ret ?_
    refine ret1 rfl rfl (fun w1 hw => ?_)
    first
      | exact ⟨congrArg Value.bool (meshOk_no1 (f := (f1, f2, f3)) (by assumption)), hw.below⟩
      | exact ⟨congrArg Value.bool (meshOk_no2 (by assumption)), hw.below⟩
      | exact ⟨congrArg Value.bool (meshOk_no3 (by assumption)), hw.below⟩
      | exact ⟨congrArg Value.bool (meshOk_no3 (szOk_no1 (by assumption)).symm), hw.below⟩
      | exact ⟨congrArg Value.bool (meshOk_no3 (szOk_no2 (by assumption)).symm), hw.below⟩
      | exact ⟨congrArg Value.bool (meshOk_no3 (szOk_no3 (by assumption)).symm), hw.below⟩
      | exact ⟨congrArg Value.bool (meshOk_no3 (szOk_no4 (by omega))), hw.below⟩
      | exact ⟨congrArg Value.bool (meshOk_last (f := (f1, f2, f3)) (by assumption) (by assumption) (by assumption)), hw.below⟩
      | exact ⟨congrArg Value.bool (meshOk_last (f := (f1, f2, f3)) (by assumption) (by assumption) (szOk_yes (by assumption) (by assumption) (by assumption) (by omega))), hw.below⟩

theorem c_l06Is {w : World} {q : Option Addr} {f1 f2 f3 st : Nat} {wi hi de : Int} {a : Option Addr} {m c : Nat} (hQ : Cl w q [.float .f32 f1, .float .f32 f2, .float .f32 f3, .float .f32 st, .int .i64 wi, .int .i64 hi, .int .i64 de, .slice a m c]) : Pure Try.prog 68 [.pointer (some (adr q 0))] w (.bool (meshOk (f1, f2, f3) st wi hi de m)) := by
  refine Pure.enter Try.func68 rfl Try.ntmps68 (Nat.le_of_ble_eq_true rfl) ?_
  refine V.seq ?_
  refine V.region ?_
  refine VL.r (.inl rfl) rfl (by decide) (yr_assign (u := .bool false) rfl rfl) ?_
  refine VL.nil ?_
  refine VE.then_wp ?_
  refine V.seq ?_
  refine V.draw [(0, 0), (1, 0), (2, 0), (3, 0), (4, 0), (5, 0), (6, 0), (7, 0), (8, 0), (9, 0), (10, 0), (11, 0), (12, 0), (13, 0), (14, 0), (15, 0), (16, 0), (17, 0), (18, 0), (19, 0), (20, 0), (21, 0), (22, 0), (23, 0), (24, 0), (25, 0), (26, 0), (27, 0), (28, 0), (29, 0), (30, 0), (31, 0), (32, 0), (33, 0), (34, 0), (35, 0), (36, 0), (37, 0), (38, 0), (39, 0), (40, 0), (41, 0), (42, 0), (43, 0), (44, 0), (45, 0), (46, 0), (47, 0), (48, 0), (49, 0)] mixed_MeshB (by kernel_rfl) (by intro j o hj; simp at hj) ?_
  refine SW.r rfl (.inl rfl) rfl (by decide) (yr_move rfl rfl) ?_
  refine SW.r rfl (.inl rfl) rfl (by decide) (yr_nilCheck rfl rfl) ?_
  refine SW.r rfl (.inl rfl) rfl (by decide) (yr_fieldAddr rfl Try.underlying30 rfl rfl sz27_MeshB (by decide) rfl) ?_
  refine SW.q rfl (.inl rfl) rfl (by decide) (yq_loadS rfl Try.underlying27 sz27_MeshB rfl (by first | exact Sees.root (by assumption) | exact Sees.own (by repeat (first | exact List.mem_cons_self | exact List.mem_append_left _ (by assumption) | apply List.mem_cons_of_mem | apply List.mem_append_right)) | exact Sees.root (hR _ (by omega)) | exact Sees.own (RowsIn.mem (by repeat (first | exact RowsIn.here | exact RowsIn.last | apply RowsIn.there | apply RowsIn.thereS)) _ (by omega)) | exact Sees.own (WRowsIn.mem (by repeat (first | exact WRowsIn.here | exact WRowsIn.last | apply WRowsIn.there | apply WRowsIn.thereS)) _ (by omega))) rfl rfl rfl) ?_
  refine SW.q rfl (.inl rfl) rfl (by decide) (yq_callf rfl known36_MeshB (.cons rfl .nil) (fun w hw => c_fin3S)) ?_
  refine SW.r rfl (.inl rfl) rfl (by decide) (yr_move rfl rfl) ?_
  refine SW.split lax_ve 8 _ rfl (fun h1 => ?_) (fun h1 => ?_)
  · skip
    refine SW.r rfl (.inr ⟨_, _, _, rfl, rfl, rfl⟩) rfl (by decide) (yr_move rfl rfl) ?_
    refine SW.r rfl (.inr ⟨_, _, _, rfl, rfl, rfl⟩) rfl (by decide) (yr_nilCheck rfl rfl) ?_
    refine SW.r rfl (.inr ⟨_, _, _, rfl, rfl, rfl⟩) rfl (by decide) (yr_fieldAddr rfl Try.underlying30 rfl rfl sz23_MeshB (by decide) rfl) ?_
    refine SW.q rfl (.inr ⟨_, _, _, rfl, rfl, rfl⟩) rfl (by decide) (yq_load rfl fb23_MeshB rfl (by first | exact Sees.root (by assumption) | exact Sees.own (by repeat (first | exact List.mem_cons_self | exact List.mem_append_left _ (by assumption) | apply List.mem_cons_of_mem | apply List.mem_append_right)) | exact Sees.root (hR _ (by omega)) | exact Sees.own (RowsIn.mem (by repeat (first | exact RowsIn.here | exact RowsIn.last | apply RowsIn.there | apply RowsIn.thereS)) _ (by omega)) | exact Sees.own (WRowsIn.mem (by repeat (first | exact WRowsIn.here | exact WRowsIn.last | apply WRowsIn.there | apply WRowsIn.thereS)) _ (by omega))) rfl) ?_
    refine SW.q rfl (.inr ⟨_, _, _, rfl, rfl, rfl⟩) rfl (by decide) (yq_callf rfl known37_MeshB (.cons rfl .nil) (fun w hw => c_l02Size _)) ?_
    refine SW.r rfl (.inl rfl) rfl (by decide) (yr_pick_t rfl rfl rfl) ?_
    refine SW.r rfl (.inl rfl) rfl (by decide) (yr_move rfl rfl) ?_
    refine SW.split lax_ve 15 _ rfl (fun h2 => ?_) (fun h2 => ?_)
    · skip
      refine SW.r rfl (.inr ⟨_, _, _, rfl, rfl, rfl⟩) rfl (by decide) (yr_move rfl rfl) ?_
      refine SW.r rfl (.inr ⟨_, _, _, rfl, rfl, rfl⟩) rfl (by decide) (yr_nilCheck rfl rfl) ?_
      refine SW.r rfl (.inr ⟨_, _, _, rfl, rfl, rfl⟩) rfl (by decide) (yr_fieldAddr rfl Try.underlying30 rfl rfl sz2_MeshB (by decide) rfl) ?_
      refine SW.q rfl (.inr ⟨_, _, _, rfl, rfl, rfl⟩) rfl (by decide) (yq_load rfl fb2_MeshB rfl (by first | exact Sees.root (by assumption) | exact Sees.own (by repeat (first | exact List.mem_cons_self | exact List.mem_append_left _ (by assumption) | apply List.mem_cons_of_mem | apply List.mem_append_right)) | exact Sees.root (hR _ (by omega)) | exact Sees.own (RowsIn.mem (by repeat (first | exact RowsIn.here | exact RowsIn.last | apply RowsIn.there | apply RowsIn.thereS)) _ (by omega)) | exact Sees.own (WRowsIn.mem (by repeat (first | exact WRowsIn.here | exact WRowsIn.last | apply WRowsIn.there | apply WRowsIn.thereS)) _ (by omega))) rfl) ?_
      refine SW.r rfl (.inr ⟨_, _, _, rfl, rfl, rfl⟩) rfl (by decide) (yr_move rfl rfl) ?_
      refine SW.r rfl (.inr ⟨_, _, _, rfl, rfl, rfl⟩) rfl (by decide) (yr_nilCheck rfl rfl) ?_
      refine SW.r rfl (.inr ⟨_, _, _, rfl, rfl, rfl⟩) rfl (by decide) (yr_fieldAddr rfl Try.underlying30 rfl rfl sz2_MeshB (by decide) rfl) ?_
      refine SW.q rfl (.inr ⟨_, _, _, rfl, rfl, rfl⟩) rfl (by decide) (yq_load rfl fb2_MeshB rfl (by first | exact Sees.root (by assumption) | exact Sees.own (by repeat (first | exact List.mem_cons_self | exact List.mem_append_left _ (by assumption) | apply List.mem_cons_of_mem | apply List.mem_append_right)) | exact Sees.root (hR _ (by omega)) | exact Sees.own (RowsIn.mem (by repeat (first | exact RowsIn.here | exact RowsIn.last | apply RowsIn.there | apply RowsIn.thereS)) _ (by omega)) | exact Sees.own (WRowsIn.mem (by repeat (first | exact WRowsIn.here | exact WRowsIn.last | apply WRowsIn.there | apply WRowsIn.thereS)) _ (by omega))) rfl) ?_
      refine SW.r rfl (.inr ⟨_, _, _, rfl, rfl, rfl⟩) rfl (by decide) (yr_move rfl rfl) ?_
      refine SW.r rfl (.inr ⟨_, _, _, rfl, rfl, rfl⟩) rfl (by decide) (yr_nilCheck rfl rfl) ?_
      refine SW.r rfl (.inr ⟨_, _, _, rfl, rfl, rfl⟩) rfl (by decide) (yr_fieldAddr rfl Try.underlying30 rfl rfl sz2_MeshB (by decide) rfl) ?_
      refine SW.q rfl (.inr ⟨_, _, _, rfl, rfl, rfl⟩) rfl (by decide) (yq_load rfl fb2_MeshB rfl (by first | exact Sees.root (by assumption) | exact Sees.own (by repeat (first | exact List.mem_cons_self | exact List.mem_append_left _ (by assumption) | apply List.mem_cons_of_mem | apply List.mem_append_right)) | exact Sees.root (hR _ (by omega)) | exact Sees.own (RowsIn.mem (by repeat (first | exact RowsIn.here | exact RowsIn.last | apply RowsIn.there | apply RowsIn.thereS)) _ (by omega)) | exact Sees.own (WRowsIn.mem (by repeat (first | exact WRowsIn.here | exact WRowsIn.last | apply WRowsIn.there | apply WRowsIn.thereS)) _ (by omega))) rfl) ?_
      refine SW.q rfl (.inr ⟨_, _, _, rfl, rfl, rfl⟩) rfl (by decide) (yq_callf rfl known38_MeshB (.cons rfl (.cons rfl (.cons rfl .nil))) (fun w hw => c_l06Sizes)) ?_
      refine SW.r rfl (.inl rfl) rfl (by decide) (yr_pick_t rfl rfl rfl) ?_
      refine SW.r rfl (.inl rfl) rfl (by decide) (yr_move rfl rfl) ?_
      refine SW.split lax_ve 30 _ rfl (fun h3 => ?_) (fun h3 => ?_)
      · skip
        obtain ⟨W9, H9, D9, hW9, hH9, hD9, g1, g2, g3, g4, g5, g6, g7⟩ := szOk_is (wi := wi) (hi := hi) (de := de) (by assumption)
        have hb := mesh_mul (wi := wi) (hi := hi) (de := de) (decide_eq_true (by omega)) (decide_eq_true (by omega)) (decide_eq_true (by omega))
        refine SW.r rfl (.inr ⟨_, _, _, rfl, rfl, rfl⟩) rfl (by decide) (yr_move rfl rfl) ?_
        refine SW.r rfl (.inr ⟨_, _, _, rfl, rfl, rfl⟩) rfl (by decide) (yr_nilCheck rfl rfl) ?_
        refine SW.r rfl (.inr ⟨_, _, _, rfl, rfl, rfl⟩) rfl (by decide) (yr_fieldAddr rfl Try.underlying30 rfl rfl sz28_MeshB (by decide) rfl) ?_
        refine SW.q rfl (.inr ⟨_, _, _, rfl, rfl, rfl⟩) rfl (by decide) (yq_load rfl fb28_MeshB rfl (by first | exact Sees.root (by assumption) | exact Sees.own (by repeat (first | exact List.mem_cons_self | exact List.mem_append_left _ (by assumption) | apply List.mem_cons_of_mem | apply List.mem_append_right)) | exact Sees.root (hR _ (by omega)) | exact Sees.own (RowsIn.mem (by repeat (first | exact RowsIn.here | exact RowsIn.last | apply RowsIn.there | apply RowsIn.thereS)) _ (by omega)) | exact Sees.own (WRowsIn.mem (by repeat (first | exact WRowsIn.here | exact WRowsIn.last | apply WRowsIn.there | apply WRowsIn.thereS)) _ (by omega))) rfl) ?_
        refine SW.r rfl (.inr ⟨_, _, _, rfl, rfl, rfl⟩) rfl (by decide) (yr_len rfl Try.underlying28 rfl) ?_
        refine SW.r rfl (.inr ⟨_, _, _, rfl, rfl, rfl⟩) rfl (by decide) (yr_move rfl rfl) ?_
        refine SW.r rfl (.inr ⟨_, _, _, rfl, rfl, rfl⟩) rfl (by decide) (yr_nilCheck rfl rfl) ?_
        refine SW.r rfl (.inr ⟨_, _, _, rfl, rfl, rfl⟩) rfl (by decide) (yr_fieldAddr rfl Try.underlying30 rfl rfl sz2_MeshB (by decide) rfl) ?_
        refine SW.q rfl (.inr ⟨_, _, _, rfl, rfl, rfl⟩) rfl (by decide) (yq_load rfl fb2_MeshB rfl (by first | exact Sees.root (by assumption) | exact Sees.own (by repeat (first | exact List.mem_cons_self | exact List.mem_append_left _ (by assumption) | apply List.mem_cons_of_mem | apply List.mem_append_right)) | exact Sees.root (hR _ (by omega)) | exact Sees.own (RowsIn.mem (by repeat (first | exact RowsIn.here | exact RowsIn.last | apply RowsIn.there | apply RowsIn.thereS)) _ (by omega)) | exact Sees.own (WRowsIn.mem (by repeat (first | exact WRowsIn.here | exact WRowsIn.last | apply WRowsIn.there | apply WRowsIn.thereS)) _ (by omega))) rfl) ?_
        refine SW.r rfl (.inr ⟨_, _, _, rfl, rfl, rfl⟩) rfl (by decide) (yr_move rfl rfl) ?_
        refine SW.r rfl (.inr ⟨_, _, _, rfl, rfl, rfl⟩) rfl (by decide) (yr_nilCheck rfl rfl) ?_
        refine SW.r rfl (.inr ⟨_, _, _, rfl, rfl, rfl⟩) rfl (by decide) (yr_fieldAddr rfl Try.underlying30 rfl rfl sz2_MeshB (by decide) rfl) ?_
        refine SW.q rfl (.inr ⟨_, _, _, rfl, rfl, rfl⟩) rfl (by decide) (yq_load rfl fb2_MeshB rfl (by first | exact Sees.root (by assumption) | exact Sees.own (by repeat (first | exact List.mem_cons_self | exact List.mem_append_left _ (by assumption) | apply List.mem_cons_of_mem | apply List.mem_append_right)) | exact Sees.root (hR _ (by omega)) | exact Sees.own (RowsIn.mem (by repeat (first | exact RowsIn.here | exact RowsIn.last | apply RowsIn.there | apply RowsIn.thereS)) _ (by omega)) | exact Sees.own (WRowsIn.mem (by repeat (first | exact WRowsIn.here | exact WRowsIn.last | apply WRowsIn.there | apply WRowsIn.thereS)) _ (by omega))) rfl) ?_
        refine SW.r rfl (.inr ⟨_, _, _, rfl, rfl, rfl⟩) rfl (by decide) (yr_int rfl rfl rfl (.inr (.inr ⟨rfl, wrap_in (by omega)⟩))) ?_
        refine SW.r rfl (.inr ⟨_, _, _, rfl, rfl, rfl⟩) rfl (by decide) (yr_move rfl rfl) ?_
        refine SW.r rfl (.inr ⟨_, _, _, rfl, rfl, rfl⟩) rfl (by decide) (yr_nilCheck rfl rfl) ?_
        refine SW.r rfl (.inr ⟨_, _, _, rfl, rfl, rfl⟩) rfl (by decide) (yr_fieldAddr rfl Try.underlying30 rfl rfl sz2_MeshB (by decide) rfl) ?_
        refine SW.q rfl (.inr ⟨_, _, _, rfl, rfl, rfl⟩) rfl (by decide) (yq_load rfl fb2_MeshB rfl (by first | exact Sees.root (by assumption) | exact Sees.own (by repeat (first | exact List.mem_cons_self | exact List.mem_append_left _ (by assumption) | apply List.mem_cons_of_mem | apply List.mem_append_right)) | exact Sees.root (hR _ (by omega)) | exact Sees.own (RowsIn.mem (by repeat (first | exact RowsIn.here | exact RowsIn.last | apply RowsIn.there | apply RowsIn.thereS)) _ (by omega)) | exact Sees.own (WRowsIn.mem (by repeat (first | exact WRowsIn.here | exact WRowsIn.last | apply WRowsIn.there | apply WRowsIn.thereS)) _ (by omega))) rfl) ?_
        refine SW.r rfl (.inr ⟨_, _, _, rfl, rfl, rfl⟩) rfl (by decide) (yr_int rfl rfl rfl (.inr (.inr ⟨rfl, wrap_in (by omega)⟩))) ?_
        refine SW.r rfl (.inr ⟨_, _, _, rfl, rfl, rfl⟩) rfl (by decide) (yr_icmp rfl (.inl rfl) rfl rfl) ?_
        refine SW.r rfl (.inl rfl) rfl (by decide) (yr_pick_t rfl rfl rfl) ?_
        refine SW.r rfl (.inl rfl) rfl (by decide) (yr_assign rfl rfl) ?_
        refine SW.done ?_
        refine VE.then_wp ?_
        refine V.ret ?_
        refine ret1 rfl rfl (fun w1 hw => ?_)
        first
          | exact ⟨congrArg Value.bool (meshOk_no1 (f := (f1, f2, f3)) (by assumption)), hw.below⟩
          | exact ⟨congrArg Value.bool (meshOk_no2 (by assumption)), hw.below⟩
          | exact ⟨congrArg Value.bool (meshOk_no3 (by assumption)), hw.below⟩
          | exact ⟨congrArg Value.bool (meshOk_no3 (szOk_no1 (by assumption)).symm), hw.below⟩
          | exact ⟨congrArg Value.bool (meshOk_no3 (szOk_no2 (by assumption)).symm), hw.below⟩
          | exact ⟨congrArg Value.bool (meshOk_no3 (szOk_no3 (by assumption)).symm), hw.below⟩
          | exact ⟨congrArg Value.bool (meshOk_no3 (szOk_no4 (by omega))), hw.below⟩
          | exact ⟨congrArg Value.bool (meshOk_last (f := (f1, f2, f3)) (by assumption) (by assumption) (by assumption)), hw.below⟩
          | exact ⟨congrArg Value.bool (meshOk_last (f := (f1, f2, f3)) (by assumption) (by assumption) (szOk_yes (by assumption) (by assumption) (by assumption) (by omega))), hw.below⟩
      · skip
        refine SW.no rfl (by decide) rfl rfl rfl rfl rfl (by decide) ?_
        refine SW.no rfl (by decide) rfl rfl rfl rfl rfl (by decide) ?_
        refine SW.no rfl (by decide) rfl rfl rfl rfl rfl (by decide) ?_
        refine SW.no rfl (by decide) rfl rfl rfl rfl rfl (by decide) ?_
        refine SW.no rfl (by decide) rfl rfl rfl rfl rfl (by decide) ?_
        refine SW.no rfl (by decide) rfl rfl rfl rfl rfl (by decide) ?_
        refine SW.no rfl (by decide) rfl rfl rfl rfl rfl (by decide) ?_
        refine SW.no rfl (by decide) rfl rfl rfl rfl rfl (by decide) ?_
        refine SW.no rfl (by decide) rfl rfl rfl rfl rfl (by decide) ?_
        refine SW.no rfl (by decide) rfl rfl rfl rfl rfl (by decide) ?_
        refine SW.no rfl (by decide) rfl rfl rfl rfl rfl (by decide) ?_
        refine SW.no rfl (by decide) rfl rfl rfl rfl rfl (by decide) ?_
        refine SW.no rfl (by decide) rfl rfl rfl rfl rfl (by decide) ?_
        refine SW.no rfl (by decide) rfl rfl rfl rfl rfl (by decide) ?_
        refine SW.no rfl (by decide) rfl rfl rfl rfl rfl (by decide) ?_
        refine SW.no rfl (by decide) rfl rfl rfl rfl rfl (by decide) ?_
        refine SW.no rfl (by decide) rfl rfl rfl rfl rfl (by decide) ?_
        refine SW.no rfl (by decide) rfl rfl rfl rfl rfl (by decide) ?_
        refine SW.no rfl (by decide) rfl rfl rfl rfl rfl (by decide) ?_
        refine SW.no rfl (by decide) rfl rfl rfl rfl rfl (by decide) ?_
        refine SW.r rfl (.inl rfl) rfl (by decide) (yr_pick_f (u := .bool false) rfl rfl rfl) ?_
        refine SW.r rfl (.inl rfl) rfl (by decide) (yr_assign rfl rfl) ?_
        refine SW.done ?_
        refine VE.then_wp ?_
        refine V.ret ?_
        refine ret1 rfl rfl (fun w1 hw => ?_)
        first
          | exact ⟨congrArg Value.bool (meshOk_no1 (f := (f1, f2, f3)) (by assumption)), hw.below⟩
          | exact ⟨congrArg Value.bool (meshOk_no2 (by assumption)), hw.below⟩
          | exact ⟨congrArg Value.bool (meshOk_no3 (by assumption)), hw.below⟩
          | exact ⟨congrArg Value.bool (meshOk_no3 (szOk_no1 (by assumption)).symm), hw.below⟩
          | exact ⟨congrArg Value.bool (meshOk_no3 (szOk_no2 (by assumption)).symm), hw.below⟩
          | exact ⟨congrArg Value.bool (meshOk_no3 (szOk_no3 (by assumption)).symm), hw.below⟩
          | exact ⟨congrArg Value.bool (meshOk_no3 (szOk_no4 (by omega))), hw.below⟩
          | exact ⟨congrArg Value.bool (meshOk_last (f := (f1, f2, f3)) (by assumption) (by assumption) (by assumption)), hw.below⟩
          | exact ⟨congrArg Value.bool (meshOk_last (f := (f1, f2, f3)) (by assumption) (by assumption) (szOk_yes (by assumption) (by assumption) (by assumption) (by omega))), hw.below⟩
    · skip
      refine SW.no rfl (by decide) rfl rfl rfl rfl rfl (by decide) ?_
      refine SW.no rfl (by decide) rfl rfl rfl rfl rfl (by decide) ?_
      refine SW.no rfl (by decide) rfl rfl rfl rfl rfl (by decide) ?_
      refine SW.no rfl (by decide) rfl rfl rfl rfl rfl (by decide) ?_
      refine SW.no rfl (by decide) rfl rfl rfl rfl rfl (by decide) ?_
      refine SW.no rfl (by decide) rfl rfl rfl rfl rfl (by decide) ?_
      refine SW.no rfl (by decide) rfl rfl rfl rfl rfl (by decide) ?_
      refine SW.no rfl (by decide) rfl rfl rfl rfl rfl (by decide) ?_
      refine SW.no rfl (by decide) rfl rfl rfl rfl rfl (by decide) ?_
      refine SW.no rfl (by decide) rfl rfl rfl rfl rfl (by decide) ?_
      refine SW.no rfl (by decide) rfl rfl rfl rfl rfl (by decide) ?_
      refine SW.no rfl (by decide) rfl rfl rfl rfl rfl (by decide) ?_
      refine SW.no rfl (by decide) rfl rfl rfl rfl rfl (by decide) ?_
      refine SW.r rfl (.inl rfl) rfl (by decide) (yr_pick_f (u := .bool false) rfl rfl rfl) ?_
      refine SW.r rfl (.inl rfl) rfl (by decide) (yr_move rfl rfl) ?_
      refine SW.no rfl (by decide) rfl rfl rfl rfl rfl (by decide) ?_
      refine SW.no rfl (by decide) rfl rfl rfl rfl rfl (by decide) ?_
      refine SW.no rfl (by decide) rfl rfl rfl rfl rfl (by decide) ?_
      refine SW.no rfl (by decide) rfl rfl rfl rfl rfl (by decide) ?_
      refine SW.no rfl (by decide) rfl rfl rfl rfl rfl (by decide) ?_
      refine SW.no rfl (by decide) rfl rfl rfl rfl rfl (by decide) ?_
      refine SW.no rfl (by decide) rfl rfl rfl rfl rfl (by decide) ?_
      refine SW.no rfl (by decide) rfl rfl rfl rfl rfl (by decide) ?_
      refine SW.no rfl (by decide) rfl rfl rfl rfl rfl (by decide) ?_
      refine SW.no rfl (by decide) rfl rfl rfl rfl rfl (by decide) ?_
      refine SW.no rfl (by decide) rfl rfl rfl rfl rfl (by decide) ?_
      refine SW.no rfl (by decide) rfl rfl rfl rfl rfl (by decide) ?_
      refine SW.no rfl (by decide) rfl rfl rfl rfl rfl (by decide) ?_
      refine SW.no rfl (by decide) rfl rfl rfl rfl rfl (by decide) ?_
      refine SW.no rfl (by decide) rfl rfl rfl rfl rfl (by decide) ?_
      refine SW.no rfl (by decide) rfl rfl rfl rfl rfl (by decide) ?_
      refine SW.no rfl (by decide) rfl rfl rfl rfl rfl (by decide) ?_
      refine SW.no rfl (by decide) rfl rfl rfl rfl rfl (by decide) ?_
      refine SW.no rfl (by decide) rfl rfl rfl rfl rfl (by decide) ?_
      refine SW.no rfl (by decide) rfl rfl rfl rfl rfl (by decide) ?_
      refine SW.r rfl (.inl rfl) rfl (by decide) (yr_pick_f (u := .bool false) rfl rfl rfl) ?_
      refine SW.r rfl (.inl rfl) rfl (by decide) (yr_assign rfl rfl) ?_
      refine SW.done ?_
      refine VE.then_wp ?_
      refine V.ret ?_
      refine ret1 rfl rfl (fun w1 hw => ?_)
      first
        | exact ⟨congrArg Value.bool (meshOk_no1 (f := (f1, f2, f3)) (by assumption)), hw.below⟩
        | exact ⟨congrArg Value.bool (meshOk_no2 (by assumption)), hw.below⟩
        | exact ⟨congrArg Value.bool (meshOk_no3 (by assumption)), hw.below⟩
        | exact ⟨congrArg Value.bool (meshOk_no3 (szOk_no1 (by assumption)).symm), hw.below⟩
        | exact ⟨congrArg Value.bool (meshOk_no3 (szOk_no2 (by assumption)).symm), hw.below⟩
        | exact ⟨congrArg Value.bool (meshOk_no3 (szOk_no3 (by assumption)).symm), hw.below⟩
        | exact ⟨congrArg Value.bool (meshOk_no3 (szOk_no4 (by omega))), hw.below⟩
        | exact ⟨congrArg Value.bool (meshOk_last (f := (f1, f2, f3)) (by assumption) (by assumption) (by assumption)), hw.below⟩
        | exact ⟨congrArg Value.bool (meshOk_last (f := (f1, f2, f3)) (by assumption) (by assumption) (szOk_yes (by assumption) (by assumption) (by assumption) (by omega))), hw.below⟩
  · skip
    refine SW.no rfl (by decide) rfl rfl rfl rfl rfl (by decide) ?_
    refine SW.no rfl (by decide) rfl rfl rfl rfl rfl (by decide) ?_
    refine SW.no rfl (by decide) rfl rfl rfl rfl rfl (by decide) ?_
    refine SW.no rfl (by decide) rfl rfl rfl rfl rfl (by decide) ?_
    refine SW.no rfl (by decide) rfl rfl rfl rfl rfl (by decide) ?_
    refine SW.r rfl (.inl rfl) rfl (by decide) (yr_pick_f (u := .bool false) rfl rfl rfl) ?_
    refine SW.r rfl (.inl rfl) rfl (by decide) (yr_move rfl rfl) ?_
    refine SW.no rfl (by decide) rfl rfl rfl rfl rfl (by decide) ?_
    refine SW.no rfl (by decide) rfl rfl rfl rfl rfl (by decide) ?_
    refine SW.no rfl (by decide) rfl rfl rfl rfl rfl (by decide) ?_
    refine SW.no rfl (by decide) rfl rfl rfl rfl rfl (by decide) ?_
    refine SW.no rfl (by decide) rfl rfl rfl rfl rfl (by decide) ?_
    refine SW.no rfl (by decide) rfl rfl rfl rfl rfl (by decide) ?_
    refine SW.no rfl (by decide) rfl rfl rfl rfl rfl (by decide) ?_
    refine SW.no rfl (by decide) rfl rfl rfl rfl rfl (by decide) ?_
    refine SW.no rfl (by decide) rfl rfl rfl rfl rfl (by decide) ?_
    refine SW.no rfl (by decide) rfl rfl rfl rfl rfl (by decide) ?_
    refine SW.no rfl (by decide) rfl rfl rfl rfl rfl (by decide) ?_
    refine SW.no rfl (by decide) rfl rfl rfl rfl rfl (by decide) ?_
    refine SW.no rfl (by decide) rfl rfl rfl rfl rfl (by decide) ?_
    refine SW.r rfl (.inl rfl) rfl (by decide) (yr_pick_f (u := .bool false) rfl rfl rfl) ?_
    refine SW.r rfl (.inl rfl) rfl (by decide) (yr_move rfl rfl) ?_
    refine SW.no rfl (by decide) rfl rfl rfl rfl rfl (by decide) ?_
    refine SW.no rfl (by decide) rfl rfl rfl rfl rfl (by decide) ?_
    refine SW.no rfl (by decide) rfl rfl rfl rfl rfl (by decide) ?_
    refine SW.no rfl (by decide) rfl rfl rfl rfl rfl (by decide) ?_
    refine SW.no rfl (by decide) rfl rfl rfl rfl rfl (by decide) ?_
    refine SW.no rfl (by decide) rfl rfl rfl rfl rfl (by decide) ?_
    refine SW.no rfl (by decide) rfl rfl rfl rfl rfl (by decide) ?_
    refine SW.no rfl (by decide) rfl rfl rfl rfl rfl (by decide) ?_
    refine SW.no rfl (by decide) rfl rfl rfl rfl rfl (by decide) ?_
    refine SW.no rfl (by decide) rfl rfl rfl rfl rfl (by decide) ?_
    refine SW.no rfl (by decide) rfl rfl rfl rfl rfl (by decide) ?_
    refine SW.no rfl (by decide) rfl rfl rfl rfl rfl (by decide) ?_
    refine SW.no rfl (by decide) rfl rfl rfl rfl rfl (by decide) ?_
    refine SW.no rfl (by decide) rfl rfl rfl rfl rfl (by decide) ?_
    refine SW.no rfl (by decide) rfl rfl rfl rfl rfl (by decide) ?_
    refine SW.no rfl (by decide) rfl rfl rfl rfl rfl (by decide) ?_
    refine SW.no rfl (by decide) rfl rfl rfl rfl rfl (by decide) ?_
    refine SW.no rfl (by decide) rfl rfl rfl rfl rfl (by decide) ?_
    refine SW.no rfl (by decide) rfl rfl rfl rfl rfl (by decide) ?_
    refine SW.no rfl (by decide) rfl rfl rfl rfl rfl (by decide) ?_
    refine SW.r rfl (.inl rfl) rfl (by decide) (yr_pick_f (u := .bool false) rfl rfl rfl) ?_
    refine SW.r rfl (.inl rfl) rfl (by decide) (yr_assign rfl rfl) ?_
    refine SW.done ?_
    refine VE.then_wp ?_
    refine V.ret ?_
    refine ret1 rfl rfl (fun w1 hw => ?_)
    first
      | exact ⟨congrArg Value.bool (meshOk_no1 (f := (f1, f2, f3)) (by assumption)), hw.below⟩
      | exact ⟨congrArg Value.bool (meshOk_no2 (by assumption)), hw.below⟩
      | exact ⟨congrArg Value.bool (meshOk_no3 (by assumption)), hw.below⟩
      | exact ⟨congrArg Value.bool (meshOk_no3 (szOk_no1 (by assumption)).symm), hw.below⟩
      | exact ⟨congrArg Value.bool (meshOk_no3 (szOk_no2 (by assumption)).symm), hw.below⟩
      | exact ⟨congrArg Value.bool (meshOk_no3 (szOk_no3 (by assumption)).symm), hw.below⟩
      | exact ⟨congrArg Value.bool (meshOk_no3 (szOk_no4 (by omega))), hw.below⟩
      | exact ⟨congrArg Value.bool (meshOk_last (f := (f1, f2, f3)) (by assumption) (by assumption) (by assumption)), hw.below⟩
      | exact ⟨congrArg Value.bool (meshOk_last (f := (f1, f2, f3)) (by assumption) (by assumption) (szOk_yes (by assumption) (by assumption) (by assumption) (by omega))), hw.below⟩

theorem c_szMesh {w : World} {f1 f2 f3 st : Nat} {wi hi de : Int} {a : Option Addr} {m c : Nat} {left : Int} (h0 : 0 ≤ left) (h1 : left ≤ 1048576) (hm : m ≤ 9223372036854775807) : Pure Try.prog 20 [.agg #[.float .f32 f1, .float .f32 f2, .float .f32 f3, .float .f32 st, .int .i64 wi, .int .i64 hi, .int .i64 de, .slice a m c], .int .i64 left] w (.int .i64 (szOf left m)) := by
  refine Pure.enter Try.func20 rfl Try.ntmps20 (Nat.le_of_ble_eq_true rfl) ?_
  refine V.seq ?_
  refine V.region ?_
  refine VL.new1 (.inl rfl) rfl (by decide) (yn_box rfl rfl (.inr ⟨rfl, rfl⟩)) ?_
  intro b2
  refine VL.r (.inl rfl) rfl (by decide) (yr_assign (u := .int .i64 0) rfl rfl) ?_
  refine VL.nil ?_
  refine VE.then_wp ?_
  refine V.seq ?_
  refine V.region ?_
  refine VL.r (.inl rfl) rfl (by decide) (yr_fieldAddr rfl Try.underlying45 rfl rfl sz43_MeshB (by decide) rfl) ?_
  refine VL.q (.inl rfl) rfl (by decide) (yq_load rfl fb43_MeshB rfl (by first | exact Sees.root (by assumption) | exact Sees.own (by repeat (first | exact List.mem_cons_self | exact List.mem_append_left _ (by assumption) | apply List.mem_cons_of_mem | apply List.mem_append_right)) | exact Sees.root (hR _ (by omega)) | exact Sees.own (RowsIn.mem (by repeat (first | exact RowsIn.here | exact RowsIn.last | apply RowsIn.there | apply RowsIn.thereS)) _ (by omega)) | exact Sees.own (WRowsIn.mem (by repeat (first | exact WRowsIn.here | exact WRowsIn.last | apply WRowsIn.there | apply WRowsIn.thereS)) _ (by omega))) rfl) ?_
  refine VL.r (.inl rfl) rfl (by decide) (yr_move rfl rfl) ?_
  refine VL.q (.inl rfl) rfl (by decide) (yq_callf rfl known59_MeshB (.cons rfl (.cons rfl .nil)) (fun w hw => (c_szVs (by omega) (by omega) (by omega)))) ?_
  refine VL.r (.inl rfl) rfl (by decide) (yr_assign rfl rfl) ?_
  refine VL.nil ?_
  refine VE.then_wp ?_
  refine V.seq ?_
  refine V.seq ?_
  refine V.region ?_
  refine VL.r (.inl rfl) rfl (by decide) (yr_move rfl rfl) ?_
  refine VL.r (.inl rfl) rfl (by decide) (yr_icmp rfl (.inr (.inr (.inl rfl))) rfl rfl) ?_
  refine VL.nil ?_
  refine VE.then_wp ?_
  refine V.cond rfl (fun h1 => ?_) (fun h1 => ?_)
  · skip
    replace h1 := ic_lss h1
    refine V.seq ?_
    refine V.region ?_
    refine VL.r (.inl rfl) rfl (by decide) (yr_assign (u := .int .i64 (-1)) rfl rfl) ?_
    refine VL.nil ?_
    refine VE.then_wp ?_
    refine V.ret ?_
    refine VE.then_ret ?_
    refine ret1 rfl rfl (fun w1 hw => ?_)
    exact ⟨by rw [szOf_neg (m := m) (by omega) (Nat.le_refl _)], hw.below⟩
  · skip
    replace h1 := ic_lss' h1
    refine V.skip ?_
    refine VE.then_wp ?_
    refine V.seq ?_
    refine V.region ?_
    refine VL.r (.inl rfl) rfl (by decide) (yr_move rfl rfl) ?_
    refine VL.r (.inl rfl) rfl (by decide) (yr_assign rfl rfl) ?_
    refine VL.nil ?_
    refine VE.then_wp ?_
    refine V.ret ?_
    refine ret1 rfl rfl (fun w1 hw => ?_)
    exact ⟨rfl, hw.below⟩

theorem c_toMesh {w : World} {f1 f2 f3 st : Nat} {wi hi de : Int} {a : Option Addr} {c : Nat} {vs : List V3} (hA : Cl w a (vl vs)) (hn : vs.length ≤ 1050000) : New Try.prog 22 [.agg #[.float .f32 f1, .float .f32 f2, .float .f32 f3, .float .f32 st, .int .i64 wi, .int .i64 hi, .int .i64 de, .slice a vs.length c]] w (fun p : Nat => .agg #[.float .f32 f1, .float .f32 f2, .float .f32 f3, .float .f32 st, .int .i64 wi, .int .i64 hi, .int .i64 de, .slice (some ⟨p, 0, none⟩) vs.length vs.length]) (fun p => [⟨some ⟨p, 0, none⟩, vl vs, vs.length * 3, 27⟩]) := by
  refine New.enter Try.func22 rfl Try.ntmps22 (Nat.le_of_ble_eq_true rfl) ?_
  refine V.seq ?_
  refine V.region ?_
  refine VL.new1 (.inl rfl) rfl (by decide) (yn_box rfl rfl (.inr ⟨rfl, rfl⟩)) ?_
  intro b1
  refine VL.new1 (.inl rfl) rfl (by decide) (yn_alloc rfl zero30_MeshB rfl) ?_
  intro b2
  refine VL.nil ?_
  refine VE.then_wp ?_
  refine V.seq ?_
  refine V.region ?_
  refine VL.new1 (.inl rfl) rfl (by decide) (yn_alloc rfl zero30_MeshB rfl) ?_
  intro b3
  refine VL.nil ?_
  refine VE.then_wp ?_
  refine V.seq ?_
  refine V.region ?_
  refine VL.r (.inl rfl) rfl (by decide) (yr_fieldAddr rfl Try.underlying45 rfl rfl sz25_MeshB (by decide) rfl) ?_
  refine VL.q (.inl rfl) rfl (by decide) (yq_loadS rfl Try.underlying25 sz25_MeshB rfl (by first | exact Sees.root (by assumption) | exact Sees.own (by repeat (first | exact List.mem_cons_self | exact List.mem_append_left _ (by assumption) | apply List.mem_cons_of_mem | apply List.mem_append_right)) | exact Sees.root (hR _ (by omega)) | exact Sees.own (RowsIn.mem (by repeat (first | exact RowsIn.here | exact RowsIn.last | apply RowsIn.there | apply RowsIn.thereS)) _ (by omega)) | exact Sees.own (WRowsIn.mem (by repeat (first | exact WRowsIn.here | exact WRowsIn.last | apply WRowsIn.there | apply WRowsIn.thereS)) _ (by omega))) rfl rfl rfl) ?_
  refine VL.q (.inl rfl) rfl (by decide) (yq_callf rfl known11_MeshB (.cons rfl .nil) (fun w hw => c_toVec)) ?_
  refine VL.r (.inl rfl) rfl (by decide) (yr_fieldAddr rfl Try.underlying30 rfl rfl sz27_MeshB (by decide) rfl) ?_
  refine VL.s (.inl rfl) rfl (yc_store rfl sz27_MeshB rfl rfl (by repeat (first | exact UpdF.here | apply UpdF.there | apply UpdF.thereS)) (.inr ⟨rfl, rfl⟩) rfl (by first | exact Nat.le_of_ble_eq_true rfl | simp) (by decide) rfl) ?_
  rintro ⟨⟩
  refine VL.nil ?_
  refine VE.then_wp ?_
  refine V.seq ?_
  refine V.region ?_
  refine VL.r (.inl rfl) rfl (by decide) (yr_fieldAddr rfl Try.underlying45 rfl rfl sz23_MeshB (by decide) rfl) ?_
  refine VL.q (.inl rfl) rfl (by decide) (yq_load rfl fb23_MeshB rfl (by first | exact Sees.root (by assumption) | exact Sees.own (by repeat (first | exact List.mem_cons_self | exact List.mem_append_left _ (by assumption) | apply List.mem_cons_of_mem | apply List.mem_append_right)) | exact Sees.root (hR _ (by omega)) | exact Sees.own (RowsIn.mem (by repeat (first | exact RowsIn.here | exact RowsIn.last | apply RowsIn.there | apply RowsIn.thereS)) _ (by omega)) | exact Sees.own (WRowsIn.mem (by repeat (first | exact WRowsIn.here | exact WRowsIn.last | apply WRowsIn.there | apply WRowsIn.thereS)) _ (by omega))) rfl) ?_
  refine VL.r (.inl rfl) rfl (by decide) (yr_fieldAddr rfl Try.underlying30 rfl rfl sz23_MeshB (by decide) rfl) ?_
  refine VL.s (.inl rfl) rfl (yc_store rfl sz23_MeshB rfl rfl (by repeat (first | exact UpdF.here | apply UpdF.there | apply UpdF.thereS)) (.inl ⟨rfl, rfl⟩) rfl (by first | exact Nat.le_of_ble_eq_true rfl | simp) (by decide) rfl) ?_
  rintro ⟨⟩
  refine VL.nil ?_
  refine VE.then_wp ?_
  refine V.seq ?_
  refine V.region ?_
  refine VL.r (.inl rfl) rfl (by decide) (yr_fieldAddr rfl Try.underlying45 rfl rfl sz2_MeshB (by decide) rfl) ?_
  refine VL.q (.inl rfl) rfl (by decide) (yq_load rfl fb2_MeshB rfl (by first | exact Sees.root (by assumption) | exact Sees.own (by repeat (first | exact List.mem_cons_self | exact List.mem_append_left _ (by assumption) | apply List.mem_cons_of_mem | apply List.mem_append_right)) | exact Sees.root (hR _ (by omega)) | exact Sees.own (RowsIn.mem (by repeat (first | exact RowsIn.here | exact RowsIn.last | apply RowsIn.there | apply RowsIn.thereS)) _ (by omega)) | exact Sees.own (WRowsIn.mem (by repeat (first | exact WRowsIn.here | exact WRowsIn.last | apply WRowsIn.there | apply WRowsIn.thereS)) _ (by omega))) rfl) ?_
  refine VL.r (.inl rfl) rfl (by decide) (yr_fieldAddr rfl Try.underlying30 rfl rfl sz2_MeshB (by decide) rfl) ?_
  refine VL.s (.inl rfl) rfl (yc_store rfl sz2_MeshB rfl rfl (by repeat (first | exact UpdF.here | apply UpdF.there | apply UpdF.thereS)) (.inl ⟨rfl, rfl⟩) rfl (by first | exact Nat.le_of_ble_eq_true rfl | simp) (by decide) rfl) ?_
  rintro ⟨⟩
  refine VL.nil ?_
  refine VE.then_wp ?_
  refine V.seq ?_
  refine V.region ?_
  refine VL.r (.inl rfl) rfl (by decide) (yr_fieldAddr rfl Try.underlying45 rfl rfl sz2_MeshB (by decide) rfl) ?_
  refine VL.q (.inl rfl) rfl (by decide) (yq_load rfl fb2_MeshB rfl (by first | exact Sees.root (by assumption) | exact Sees.own (by repeat (first | exact List.mem_cons_self | exact List.mem_append_left _ (by assumption) | apply List.mem_cons_of_mem | apply List.mem_append_right)) | exact Sees.root (hR _ (by omega)) | exact Sees.own (RowsIn.mem (by repeat (first | exact RowsIn.here | exact RowsIn.last | apply RowsIn.there | apply RowsIn.thereS)) _ (by omega)) | exact Sees.own (WRowsIn.mem (by repeat (first | exact WRowsIn.here | exact WRowsIn.last | apply WRowsIn.there | apply WRowsIn.thereS)) _ (by omega))) rfl) ?_
  refine VL.r (.inl rfl) rfl (by decide) (yr_fieldAddr rfl Try.underlying30 rfl rfl sz2_MeshB (by decide) rfl) ?_
  refine VL.s (.inl rfl) rfl (yc_store rfl sz2_MeshB rfl rfl (by repeat (first | exact UpdF.here | apply UpdF.there | apply UpdF.thereS)) (.inl ⟨rfl, rfl⟩) rfl (by first | exact Nat.le_of_ble_eq_true rfl | simp) (by decide) rfl) ?_
  rintro ⟨⟩
  refine VL.nil ?_
  refine VE.then_wp ?_
  refine V.seq ?_
  refine V.region ?_
  refine VL.r (.inl rfl) rfl (by decide) (yr_fieldAddr rfl Try.underlying45 rfl rfl sz2_MeshB (by decide) rfl) ?_
  refine VL.q (.inl rfl) rfl (by decide) (yq_load rfl fb2_MeshB rfl (by first | exact Sees.root (by assumption) | exact Sees.own (by repeat (first | exact List.mem_cons_self | exact List.mem_append_left _ (by assumption) | apply List.mem_cons_of_mem | apply List.mem_append_right)) | exact Sees.root (hR _ (by omega)) | exact Sees.own (RowsIn.mem (by repeat (first | exact RowsIn.here | exact RowsIn.last | apply RowsIn.there | apply RowsIn.thereS)) _ (by omega)) | exact Sees.own (WRowsIn.mem (by repeat (first | exact WRowsIn.here | exact WRowsIn.last | apply WRowsIn.there | apply WRowsIn.thereS)) _ (by omega))) rfl) ?_
  refine VL.r (.inl rfl) rfl (by decide) (yr_fieldAddr rfl Try.underlying30 rfl rfl sz2_MeshB (by decide) rfl) ?_
  refine VL.s (.inl rfl) rfl (yc_store rfl sz2_MeshB rfl rfl (by repeat (first | exact UpdF.here | apply UpdF.there | apply UpdF.thereS)) (.inl ⟨rfl, rfl⟩) rfl (by first | exact Nat.le_of_ble_eq_true rfl | simp) (by decide) rfl) ?_
  rintro ⟨⟩
  refine VL.nil ?_
  refine VE.then_wp ?_
  refine V.seq ?_
  refine V.region ?_
  refine VL.r (.inl rfl) rfl (by decide) (yr_fieldAddr rfl Try.underlying45 rfl rfl sz43_MeshB (by decide) rfl) ?_
  refine VL.q (.inl rfl) rfl (by decide) (yq_load rfl fb43_MeshB rfl (by first | exact Sees.root (by assumption) | exact Sees.own (by repeat (first | exact List.mem_cons_self | exact List.mem_append_left _ (by assumption) | apply List.mem_cons_of_mem | apply List.mem_append_right)) | exact Sees.root (hR _ (by omega)) | exact Sees.own (RowsIn.mem (by repeat (first | exact RowsIn.here | exact RowsIn.last | apply RowsIn.there | apply RowsIn.thereS)) _ (by omega)) | exact Sees.own (WRowsIn.mem (by repeat (first | exact WRowsIn.here | exact WRowsIn.last | apply WRowsIn.there | apply WRowsIn.thereS)) _ (by omega))) rfl) ?_
  refine VL.new1 (.inl rfl) rfl (by decide) (yn_callf rfl known61_MeshB (.cons rfl .nil) (fun w hw => (c_toVs (by first | exact Sees.root (by assumption) w hw | exact Sees.own (by repeat (first | exact List.mem_cons_self | exact List.mem_append_left _ (by assumption) | apply List.mem_cons_of_mem | apply List.mem_append_right)) w hw) (by omega)))) ?_
  intro b22
  refine VL.r (.inl rfl) rfl (by decide) (yr_fieldAddr rfl Try.underlying30 rfl rfl sz28_MeshB (by decide) rfl) ?_
  refine VL.s (.inl rfl) rfl (yc_store rfl sz28_MeshB rfl rfl (by repeat (first | exact UpdF.here | apply UpdF.there | apply UpdF.thereS)) (.inl ⟨rfl, rfl⟩) rfl (by first | exact Nat.le_of_ble_eq_true rfl | simp) (by decide) rfl) ?_
  rintro ⟨⟩
  refine VL.nil ?_
  refine VE.then_wp ?_
  refine V.seq ?_
  refine V.region ?_
  refine VL.q (.inl rfl) rfl (by decide) (yq_loadS rfl Try.underlying30 sz30_MeshB rfl (by first | exact Sees.root (by assumption) | exact Sees.own (by repeat (first | exact List.mem_cons_self | exact List.mem_append_left _ (by assumption) | apply List.mem_cons_of_mem | apply List.mem_append_right)) | exact Sees.root (hR _ (by omega)) | exact Sees.own (RowsIn.mem (by repeat (first | exact RowsIn.here | exact RowsIn.last | apply RowsIn.there | apply RowsIn.thereS)) _ (by omega)) | exact Sees.own (WRowsIn.mem (by repeat (first | exact WRowsIn.here | exact WRowsIn.last | apply WRowsIn.there | apply WRowsIn.thereS)) _ (by omega))) rfl rfl rfl) ?_
  refine VL.s (.inl rfl) rfl (yc_store rfl sz30_MeshB rfl rfl (by repeat (first | exact UpdF.here | apply UpdF.there | apply UpdF.thereS)) (.inr ⟨rfl, rfl⟩) rfl (by first | exact Nat.le_of_ble_eq_true rfl | simp) (by decide) rfl) ?_
  rintro ⟨⟩
  refine VL.nil ?_
  refine VE.then_wp ?_
  refine V.ret ?_
  refine retC rfl (rv_cellS rfl Try.underlying30 sz30_MeshB (by first | exact Sees.root (by assumption) | exact Sees.own (by repeat (first | exact List.mem_cons_self | exact List.mem_append_left _ (by assumption) | apply List.mem_cons_of_mem | apply List.mem_append_right)) | exact Sees.root (hR _ (by omega)) | exact Sees.own (RowsIn.mem (by repeat (first | exact RowsIn.here | exact RowsIn.last | apply RowsIn.there | apply RowsIn.thereS)) _ (by omega)) | exact Sees.own (WRowsIn.mem (by repeat (first | exact WRowsIn.here | exact WRowsIn.last | apply WRowsIn.there | apply WRowsIn.thereS)) _ (by omega))) rfl rfl rfl) (by nofun) (fun w1 hw => ?_)
  exact ⟨b22, rfl, hw.out1⟩

theorem c_eqMesh {w : World} {f1 f2 f3 st : Nat} {wi hi de : Int} {a : Option Addr} {c : Nat} {vs : List V3} {g1 g2 g3 st2 : Nat} {wi2 hi2 de2 : Int} {b : Option Addr} {d : Nat} {us : List V3} (hA : Cl w a (vl vs)) (hB : Cl w b (vl us)) (hX : Cans3 vs) (hY : Cans3 us) (hf : Can3 (f1, f2, f3)) (hg : Can3 (g1, g2, g3)) (hs : Can .f32 st) (hs2 : Can .f32 st2) (hn : vs.length ≤ 1050000) : Pure Try.prog 13 [.agg #[.float .f32 f1, .float .f32 f2, .float .f32 f3, .float .f32 st, .int .i64 wi, .int .i64 hi, .int .i64 de, .slice a vs.length c], .agg #[.float .f32 g1, .float .f32 g2, .float .f32 g3, .float .f32 st2, .int .i64 wi2, .int .i64 hi2, .int .i64 de2, .slice b us.length d]] w (.bool ((((f1, f2, f3) : V3) == (g1, g2, g3)) && st == st2 && wi == wi2 && hi == hi2 && de == de2 && vs == us)) := by
  refine Pure.enter Try.func13 rfl Try.ntmps13 (Nat.le_of_ble_eq_true rfl) ?_
  refine V.seq ?_
  refine V.region ?_
  refine VL.new1 (.inl rfl) rfl (by decide) (yn_box rfl rfl (.inr ⟨rfl, rfl⟩)) ?_
  intro b2
  refine VL.new1 (.inl rfl) rfl (by decide) (yn_box rfl rfl (.inr ⟨rfl, rfl⟩)) ?_
  intro b3
  refine VL.r (.inl rfl) rfl (by decide) (yr_assign (u := .bool false) rfl rfl) ?_
  refine VL.nil ?_
  refine VE.then_wp ?_
  refine V.seq ?_
  refine V.seq ?_
  refine V.region ?_
  refine VL.r (.inl rfl) rfl (by decide) (yr_fieldAddr rfl Try.underlying30 rfl rfl sz27_MeshB (by decide) rfl) ?_
  refine VL.q (.inl rfl) rfl (by decide) (yq_loadS rfl Try.underlying27 sz27_MeshB rfl (by first | exact Sees.root (by assumption) | exact Sees.own (by repeat (first | exact List.mem_cons_self | exact List.mem_append_left _ (by assumption) | apply List.mem_cons_of_mem | apply List.mem_append_right)) | exact Sees.root (hR _ (by omega)) | exact Sees.own (RowsIn.mem (by repeat (first | exact RowsIn.here | exact RowsIn.last | apply RowsIn.there | apply RowsIn.thereS)) _ (by omega)) | exact Sees.own (WRowsIn.mem (by repeat (first | exact WRowsIn.here | exact WRowsIn.last | apply WRowsIn.there | apply WRowsIn.thereS)) _ (by omega))) rfl rfl rfl) ?_
  refine VL.r (.inl rfl) rfl (by decide) (yr_fieldAddr rfl Try.underlying30 rfl rfl sz27_MeshB (by decide) rfl) ?_
  refine VL.q (.inl rfl) rfl (by decide) (yq_loadS rfl Try.underlying27 sz27_MeshB rfl (by first | exact Sees.root (by assumption) | exact Sees.own (by repeat (first | exact List.mem_cons_self | exact List.mem_append_left _ (by assumption) | apply List.mem_cons_of_mem | apply List.mem_append_right)) | exact Sees.root (hR _ (by omega)) | exact Sees.own (RowsIn.mem (by repeat (first | exact RowsIn.here | exact RowsIn.last | apply RowsIn.there | apply RowsIn.thereS)) _ (by omega)) | exact Sees.own (WRowsIn.mem (by repeat (first | exact WRowsIn.here | exact WRowsIn.last | apply WRowsIn.there | apply WRowsIn.thereS)) _ (by omega))) rfl rfl rfl) ?_
  refine VL.q (.inl rfl) rfl (by decide) (yq_callf rfl known49_MeshB (.cons rfl (.cons rfl .nil)) (fun w hw => (c_eqVec (by assumption) (by assumption)))) ?_
  refine VL.r (.inl rfl) rfl (by decide) (yr_not rfl rfl) ?_
  refine VL.nil ?_
  refine VE.then_wp ?_
  refine V.cond rfl (fun h1 => ?_) (fun h1 => ?_)
  · skip
    replace h1 := bnot_t h1
    refine V.seq ?_
    refine V.region ?_
    refine VL.r (.inl rfl) rfl (by decide) (yr_assign (u := .bool false) rfl rfl) ?_
    refine VL.nil ?_
    refine VE.then_wp ?_
    refine V.ret ?_
    refine VE.then_ret ?_
    refine ret1 rfl rfl (fun w1 hw => ?_)
    refine ⟨congrArg Value.bool ?_, hw.below⟩
    have e1 := up_beq hs hs2
    rw [← e1]
    have n1 : ∀ x y : Int, ¬ x = y → (x == y) = false := fun x y h => by simpa using h
    have n2 : ∀ x y : Int, x = y → (x == y) = true := fun x y h => by simpa using h
    first
      | (simp only [*, Bool.false_and, Bool.and_false, Bool.true_and, Bool.and_true]; done)
      | (rw [n1 _ _ (show ¬ wi = wi2 by omega)]; simp only [*, Bool.false_and, Bool.and_false, Bool.true_and, Bool.and_true]; done)
      | (rw [n1 _ _ (show ¬ hi = hi2 by omega)]; simp only [*, Bool.false_and, Bool.and_false, Bool.true_and, Bool.and_true]; done)
      | (rw [n1 _ _ (show ¬ de = de2 by omega)]; simp only [*, Bool.false_and, Bool.and_false, Bool.true_and, Bool.and_true]; done)
      | (rw [n2 _ _ (show wi = wi2 by omega), n2 _ _ (show hi = hi2 by omega), n2 _ _ (show de = de2 by omega)]
         simp only [*, Bool.false_and, Bool.and_false, Bool.true_and, Bool.and_true]; done)
  · skip
    replace h1 := bnot_f h1
    refine V.skip ?_
    refine VE.then_wp ?_
    refine V.seq ?_
    refine V.seq ?_
    refine V.region ?_
    refine VL.r (.inl rfl) rfl (by decide) (yr_fieldAddr rfl Try.underlying30 rfl rfl sz23_MeshB (by decide) rfl) ?_
    refine VL.q (.inl rfl) rfl (by decide) (yq_load rfl fb23_MeshB rfl (by first | exact Sees.root (by assumption) | exact Sees.own (by repeat (first | exact List.mem_cons_self | exact List.mem_append_left _ (by assumption) | apply List.mem_cons_of_mem | apply List.mem_append_right)) | exact Sees.root (hR _ (by omega)) | exact Sees.own (RowsIn.mem (by repeat (first | exact RowsIn.here | exact RowsIn.last | apply RowsIn.there | apply RowsIn.thereS)) _ (by omega)) | exact Sees.own (WRowsIn.mem (by repeat (first | exact WRowsIn.here | exact WRowsIn.last | apply WRowsIn.there | apply WRowsIn.thereS)) _ (by omega))) rfl) ?_
    refine VL.r (.inl rfl) rfl (by decide) (yr_fconv rfl Try.underlying23 Try.underlying56 (by decide) rfl (fover_up _)) ?_
    refine VL.r (.inl rfl) rfl (by decide) (yr_fieldAddr rfl Try.underlying30 rfl rfl sz23_MeshB (by decide) rfl) ?_
    refine VL.q (.inl rfl) rfl (by decide) (yq_load rfl fb23_MeshB rfl (by first | exact Sees.root (by assumption) | exact Sees.own (by repeat (first | exact List.mem_cons_self | exact List.mem_append_left _ (by assumption) | apply List.mem_cons_of_mem | apply List.mem_append_right)) | exact Sees.root (hR _ (by omega)) | exact Sees.own (RowsIn.mem (by repeat (first | exact RowsIn.here | exact RowsIn.last | apply RowsIn.there | apply RowsIn.thereS)) _ (by omega)) | exact Sees.own (WRowsIn.mem (by repeat (first | exact WRowsIn.here | exact WRowsIn.last | apply WRowsIn.there | apply WRowsIn.thereS)) _ (by omega))) rfl) ?_
    refine VL.r (.inl rfl) rfl (by decide) (yr_fconv rfl Try.underlying23 Try.underlying56 (by decide) rfl (fover_up _)) ?_
    refine VL.q (.inl rfl) rfl (by decide) (yq_callf rfl known33_MeshB (.cons rfl (.cons rfl .nil)) (fun w hw => (c_sameFloat _ _ (can_up _) (can_up _)))) ?_
    refine VL.r (.inl rfl) rfl (by decide) (yr_not rfl rfl) ?_
    refine VL.nil ?_
    refine VE.then_wp ?_
    refine V.cond rfl (fun h2 => ?_) (fun h2 => ?_)
    · skip
      replace h2 := bnot_t h2
      refine V.seq ?_
      refine V.region ?_
      refine VL.r (.inl rfl) rfl (by decide) (yr_assign (u := .bool false) rfl rfl) ?_
      refine VL.nil ?_
      refine VE.then_wp ?_
      refine V.ret ?_
      refine VE.then_ret ?_
      refine ret1 rfl rfl (fun w1 hw => ?_)
      refine ⟨congrArg Value.bool ?_, hw.below⟩
      have e1 := up_beq hs hs2
      rw [← e1]
      have n1 : ∀ x y : Int, ¬ x = y → (x == y) = false := fun x y h => by simpa using h
      have n2 : ∀ x y : Int, x = y → (x == y) = true := fun x y h => by simpa using h
      first
        | (simp only [*, Bool.false_and, Bool.and_false, Bool.true_and, Bool.and_true]; done)
        | (rw [n1 _ _ (show ¬ wi = wi2 by omega)]; simp only [*, Bool.false_and, Bool.and_false, Bool.true_and, Bool.and_true]; done)
        | (rw [n1 _ _ (show ¬ hi = hi2 by omega)]; simp only [*, Bool.false_and, Bool.and_false, Bool.true_and, Bool.and_true]; done)
        | (rw [n1 _ _ (show ¬ de = de2 by omega)]; simp only [*, Bool.false_and, Bool.and_false, Bool.true_and, Bool.and_true]; done)
        | (rw [n2 _ _ (show wi = wi2 by omega), n2 _ _ (show hi = hi2 by omega), n2 _ _ (show de = de2 by omega)]
           simp only [*, Bool.false_and, Bool.and_false, Bool.true_and, Bool.and_true]; done)
    · skip
      replace h2 := bnot_f h2
      refine V.skip ?_
      refine VE.then_wp ?_
      refine V.seq ?_
      refine V.seq ?_
      refine V.region ?_
      refine VL.r (.inl rfl) rfl (by decide) (yr_fieldAddr rfl Try.underlying30 rfl rfl sz2_MeshB (by decide) rfl) ?_
      refine VL.q (.inl rfl) rfl (by decide) (yq_load rfl fb2_MeshB rfl (by first | exact Sees.root (by assumption) | exact Sees.own (by repeat (first | exact List.mem_cons_self | exact List.mem_append_left _ (by assumption) | apply List.mem_cons_of_mem | apply List.mem_append_right)) | exact Sees.root (hR _ (by omega)) | exact Sees.own (RowsIn.mem (by repeat (first | exact RowsIn.here | exact RowsIn.last | apply RowsIn.there | apply RowsIn.thereS)) _ (by omega)) | exact Sees.own (WRowsIn.mem (by repeat (first | exact WRowsIn.here | exact WRowsIn.last | apply WRowsIn.there | apply WRowsIn.thereS)) _ (by omega))) rfl) ?_
      refine VL.r (.inl rfl) rfl (by decide) (yr_fieldAddr rfl Try.underlying30 rfl rfl sz2_MeshB (by decide) rfl) ?_
      refine VL.q (.inl rfl) rfl (by decide) (yq_load rfl fb2_MeshB rfl (by first | exact Sees.root (by assumption) | exact Sees.own (by repeat (first | exact List.mem_cons_self | exact List.mem_append_left _ (by assumption) | apply List.mem_cons_of_mem | apply List.mem_append_right)) | exact Sees.root (hR _ (by omega)) | exact Sees.own (RowsIn.mem (by repeat (first | exact RowsIn.here | exact RowsIn.last | apply RowsIn.there | apply RowsIn.thereS)) _ (by omega)) | exact Sees.own (WRowsIn.mem (by repeat (first | exact WRowsIn.here | exact WRowsIn.last | apply WRowsIn.there | apply WRowsIn.thereS)) _ (by omega))) rfl) ?_
      refine VL.r (.inl rfl) rfl (by decide) (yr_icmp rfl (.inr (.inl rfl)) rfl rfl) ?_
      refine VL.nil ?_
      refine VE.then_wp ?_
      refine V.cond rfl (fun h3 => ?_) (fun h3 => ?_)
      · skip
        replace h3 := ic_neq h3
        refine V.seq ?_
        refine V.region ?_
        refine VL.r (.inl rfl) rfl (by decide) (yr_assign (u := .bool false) rfl rfl) ?_
        refine VL.nil ?_
        refine VE.then_wp ?_
        refine V.ret ?_
        refine VE.then_ret ?_
        refine ret1 rfl rfl (fun w1 hw => ?_)
        refine ⟨congrArg Value.bool ?_, hw.below⟩
        have e1 := up_beq hs hs2
        rw [← e1]
        have n1 : ∀ x y : Int, ¬ x = y → (x == y) = false := fun x y h => by simpa using h
        have n2 : ∀ x y : Int, x = y → (x == y) = true := fun x y h => by simpa using h
        first
          | (simp only [*, Bool.false_and, Bool.and_false, Bool.true_and, Bool.and_true]; done)
          | (rw [n1 _ _ (show ¬ wi = wi2 by omega)]; simp only [*, Bool.false_and, Bool.and_false, Bool.true_and, Bool.and_true]; done)
          | (rw [n1 _ _ (show ¬ hi = hi2 by omega)]; simp only [*, Bool.false_and, Bool.and_false, Bool.true_and, Bool.and_true]; done)
          | (rw [n1 _ _ (show ¬ de = de2 by omega)]; simp only [*, Bool.false_and, Bool.and_false, Bool.true_and, Bool.and_true]; done)
          | (rw [n2 _ _ (show wi = wi2 by omega), n2 _ _ (show hi = hi2 by omega), n2 _ _ (show de = de2 by omega)]
             simp only [*, Bool.false_and, Bool.and_false, Bool.true_and, Bool.and_true]; done)
      · skip
        replace h3 := ic_neq' h3
        refine V.skip ?_
        refine VE.then_wp ?_
        refine V.seq ?_
        refine V.seq ?_
        refine V.region ?_
        refine VL.r (.inl rfl) rfl (by decide) (yr_fieldAddr rfl Try.underlying30 rfl rfl sz2_MeshB (by decide) rfl) ?_
        refine VL.q (.inl rfl) rfl (by decide) (yq_load rfl fb2_MeshB rfl (by first | exact Sees.root (by assumption) | exact Sees.own (by repeat (first | exact List.mem_cons_self | exact List.mem_append_left _ (by assumption) | apply List.mem_cons_of_mem | apply List.mem_append_right)) | exact Sees.root (hR _ (by omega)) | exact Sees.own (RowsIn.mem (by repeat (first | exact RowsIn.here | exact RowsIn.last | apply RowsIn.there | apply RowsIn.thereS)) _ (by omega)) | exact Sees.own (WRowsIn.mem (by repeat (first | exact WRowsIn.here | exact WRowsIn.last | apply WRowsIn.there | apply WRowsIn.thereS)) _ (by omega))) rfl) ?_
        refine VL.r (.inl rfl) rfl (by decide) (yr_fieldAddr rfl Try.underlying30 rfl rfl sz2_MeshB (by decide) rfl) ?_
        refine VL.q (.inl rfl) rfl (by decide) (yq_load rfl fb2_MeshB rfl (by first | exact Sees.root (by assumption) | exact Sees.own (by repeat (first | exact List.mem_cons_self | exact List.mem_append_left _ (by assumption) | apply List.mem_cons_of_mem | apply List.mem_append_right)) | exact Sees.root (hR _ (by omega)) | exact Sees.own (RowsIn.mem (by repeat (first | exact RowsIn.here | exact RowsIn.last | apply RowsIn.there | apply RowsIn.thereS)) _ (by omega)) | exact Sees.own (WRowsIn.mem (by repeat (first | exact WRowsIn.here | exact WRowsIn.last | apply WRowsIn.there | apply WRowsIn.thereS)) _ (by omega))) rfl) ?_
        refine VL.r (.inl rfl) rfl (by decide) (yr_icmp rfl (.inr (.inl rfl)) rfl rfl) ?_
        refine VL.nil ?_
        refine VE.then_wp ?_
        refine V.cond rfl (fun h4 => ?_) (fun h4 => ?_)
        · skip
          replace h4 := ic_neq h4
          refine V.seq ?_
          refine V.region ?_
          refine VL.r (.inl rfl) rfl (by decide) (yr_assign (u := .bool false) rfl rfl) ?_
          refine VL.nil ?_
          refine VE.then_wp ?_
          refine V.ret ?_
          refine VE.then_ret ?_
          refine ret1 rfl rfl (fun w1 hw => ?_)
          refine ⟨congrArg Value.bool ?_, hw.below⟩
          have e1 := up_beq hs hs2
          rw [← e1]
          have n1 : ∀ x y : Int, ¬ x = y → (x == y) = false := fun x y h => by simpa using h
          have n2 : ∀ x y : Int, x = y → (x == y) = true := fun x y h => by simpa using h
          first
            | (simp only [*, Bool.false_and, Bool.and_false, Bool.true_and, Bool.and_true]; done)
            | (rw [n1 _ _ (show ¬ wi = wi2 by omega)]; simp only [*, Bool.false_and, Bool.and_false, Bool.true_and, Bool.and_true]; done)
            | (rw [n1 _ _ (show ¬ hi = hi2 by omega)]; simp only [*, Bool.false_and, Bool.and_false, Bool.true_and, Bool.and_true]; done)
            | (rw [n1 _ _ (show ¬ de = de2 by omega)]; simp only [*, Bool.false_and, Bool.and_false, Bool.true_and, Bool.and_true]; done)
            | (rw [n2 _ _ (show wi = wi2 by omega), n2 _ _ (show hi = hi2 by omega), n2 _ _ (show de = de2 by omega)]
               simp only [*, Bool.false_and, Bool.and_false, Bool.true_and, Bool.and_true]; done)
        · skip
          replace h4 := ic_neq' h4
          refine V.skip ?_
          refine VE.then_wp ?_
          refine V.seq ?_
          refine V.seq ?_
          refine V.region ?_
          refine VL.r (.inl rfl) rfl (by decide) (yr_fieldAddr rfl Try.underlying30 rfl rfl sz2_MeshB (by decide) rfl) ?_
          refine VL.q (.inl rfl) rfl (by decide) (yq_load rfl fb2_MeshB rfl (by first | exact Sees.root (by assumption) | exact Sees.own (by repeat (first | exact List.mem_cons_self | exact List.mem_append_left _ (by assumption) | apply List.mem_cons_of_mem | apply List.mem_append_right)) | exact Sees.root (hR _ (by omega)) | exact Sees.own (RowsIn.mem (by repeat (first | exact RowsIn.here | exact RowsIn.last | apply RowsIn.there | apply RowsIn.thereS)) _ (by omega)) | exact Sees.own (WRowsIn.mem (by repeat (first | exact WRowsIn.here | exact WRowsIn.last | apply WRowsIn.there | apply WRowsIn.thereS)) _ (by omega))) rfl) ?_
          refine VL.r (.inl rfl) rfl (by decide) (yr_fieldAddr rfl Try.underlying30 rfl rfl sz2_MeshB (by decide) rfl) ?_
          refine VL.q (.inl rfl) rfl (by decide) (yq_load rfl fb2_MeshB rfl (by first | exact Sees.root (by assumption) | exact Sees.own (by repeat (first | exact List.mem_cons_self | exact List.mem_append_left _ (by assumption) | apply List.mem_cons_of_mem | apply List.mem_append_right)) | exact Sees.root (hR _ (by omega)) | exact Sees.own (RowsIn.mem (by repeat (first | exact RowsIn.here | exact RowsIn.last | apply RowsIn.there | apply RowsIn.thereS)) _ (by omega)) | exact Sees.own (WRowsIn.mem (by repeat (first | exact WRowsIn.here | exact WRowsIn.last | apply WRowsIn.there | apply WRowsIn.thereS)) _ (by omega))) rfl) ?_
          refine VL.r (.inl rfl) rfl (by decide) (yr_icmp rfl (.inr (.inl rfl)) rfl rfl) ?_
          refine VL.nil ?_
          refine VE.then_wp ?_
          refine V.cond rfl (fun h5 => ?_) (fun h5 => ?_)
          · skip
            replace h5 := ic_neq h5
            refine V.seq ?_
            refine V.region ?_
            refine VL.r (.inl rfl) rfl (by decide) (yr_assign (u := .bool false) rfl rfl) ?_
            refine VL.nil ?_
            refine VE.then_wp ?_
            refine V.ret ?_
            refine VE.then_ret ?_
            refine ret1 rfl rfl (fun w1 hw => ?_)
            refine ⟨congrArg Value.bool ?_, hw.below⟩
            have e1 := up_beq hs hs2
            rw [← e1]
            have n1 : ∀ x y : Int, ¬ x = y → (x == y) = false := fun x y h => by simpa using h
            have n2 : ∀ x y : Int, x = y → (x == y) = true := fun x y h => by simpa using h
            first
              | (simp only [*, Bool.false_and, Bool.and_false, Bool.true_and, Bool.and_true]; done)
              | (rw [n1 _ _ (show ¬ wi = wi2 by omega)]; simp only [*, Bool.false_and, Bool.and_false, Bool.true_and, Bool.and_true]; done)
              | (rw [n1 _ _ (show ¬ hi = hi2 by omega)]; simp only [*, Bool.false_and, Bool.and_false, Bool.true_and, Bool.and_true]; done)
              | (rw [n1 _ _ (show ¬ de = de2 by omega)]; simp only [*, Bool.false_and, Bool.and_false, Bool.true_and, Bool.and_true]; done)
              | (rw [n2 _ _ (show wi = wi2 by omega), n2 _ _ (show hi = hi2 by omega), n2 _ _ (show de = de2 by omega)]
                 simp only [*, Bool.false_and, Bool.and_false, Bool.true_and, Bool.and_true]; done)
          · skip
            replace h5 := ic_neq' h5
            refine V.skip ?_
            refine VE.then_wp ?_
            refine V.seq ?_
            refine V.seq ?_
            refine V.region ?_
            refine VL.r (.inl rfl) rfl (by decide) (yr_fieldAddr rfl Try.underlying30 rfl rfl sz28_MeshB (by decide) rfl) ?_
            refine VL.q (.inl rfl) rfl (by decide) (yq_load rfl fb28_MeshB rfl (by first | exact Sees.root (by assumption) | exact Sees.own (by repeat (first | exact List.mem_cons_self | exact List.mem_append_left _ (by assumption) | apply List.mem_cons_of_mem | apply List.mem_append_right)) | exact Sees.root (hR _ (by omega)) | exact Sees.own (RowsIn.mem (by repeat (first | exact RowsIn.here | exact RowsIn.last | apply RowsIn.there | apply RowsIn.thereS)) _ (by omega)) | exact Sees.own (WRowsIn.mem (by repeat (first | exact WRowsIn.here | exact WRowsIn.last | apply WRowsIn.there | apply WRowsIn.thereS)) _ (by omega))) rfl) ?_
            refine VL.r (.inl rfl) rfl (by decide) (yr_fieldAddr rfl Try.underlying30 rfl rfl sz28_MeshB (by decide) rfl) ?_
            refine VL.q (.inl rfl) rfl (by decide) (yq_load rfl fb28_MeshB rfl (by first | exact Sees.root (by assumption) | exact Sees.own (by repeat (first | exact List.mem_cons_self | exact List.mem_append_left _ (by assumption) | apply List.mem_cons_of_mem | apply List.mem_append_right)) | exact Sees.root (hR _ (by omega)) | exact Sees.own (RowsIn.mem (by repeat (first | exact RowsIn.here | exact RowsIn.last | apply RowsIn.there | apply RowsIn.thereS)) _ (by omega)) | exact Sees.own (WRowsIn.mem (by repeat (first | exact WRowsIn.here | exact WRowsIn.last | apply WRowsIn.there | apply WRowsIn.thereS)) _ (by omega))) rfl) ?_
            refine VL.q (.inl rfl) rfl (by decide) (yq_callf rfl known50_MeshB (.cons rfl (.cons rfl .nil)) (fun w hw => (c_eqVs (by first | exact Sees.root (by assumption) w hw | exact Sees.own (by repeat (first | exact List.mem_cons_self | exact List.mem_append_left _ (by assumption) | apply List.mem_cons_of_mem | apply List.mem_append_right)) w hw) (by first | exact Sees.root (by assumption) w hw | exact Sees.own (by repeat (first | exact List.mem_cons_self | exact List.mem_append_left _ (by assumption) | apply List.mem_cons_of_mem | apply List.mem_append_right)) w hw) (by assumption) (by assumption) (by omega)))) ?_
            refine VL.r (.inl rfl) rfl (by decide) (yr_not rfl rfl) ?_
            refine VL.nil ?_
            refine VE.then_wp ?_
            refine V.cond rfl (fun h6 => ?_) (fun h6 => ?_)
            · skip
              replace h6 := bnot_t h6
              refine V.seq ?_
              refine V.region ?_
              refine VL.r (.inl rfl) rfl (by decide) (yr_assign (u := .bool false) rfl rfl) ?_
              refine VL.nil ?_
              refine VE.then_wp ?_
              refine V.ret ?_
              refine VE.then_ret ?_
              refine ret1 rfl rfl (fun w1 hw => ?_)
              refine ⟨congrArg Value.bool ?_, hw.below⟩
              have e1 := up_beq hs hs2
              rw [← e1]
              have n1 : ∀ x y : Int, ¬ x = y → (x == y) = false := fun x y h => by simpa using h
              have n2 : ∀ x y : Int, x = y → (x == y) = true := fun x y h => by simpa using h
              first
                | (simp only [*, Bool.false_and, Bool.and_false, Bool.true_and, Bool.and_true]; done)
                | (rw [n1 _ _ (show ¬ wi = wi2 by omega)]; simp only [*, Bool.false_and, Bool.and_false, Bool.true_and, Bool.and_true]; done)
                | (rw [n1 _ _ (show ¬ hi = hi2 by omega)]; simp only [*, Bool.false_and, Bool.and_false, Bool.true_and, Bool.and_true]; done)
                | (rw [n1 _ _ (show ¬ de = de2 by omega)]; simp only [*, Bool.false_and, Bool.and_false, Bool.true_and, Bool.and_true]; done)
                | (rw [n2 _ _ (show wi = wi2 by omega), n2 _ _ (show hi = hi2 by omega), n2 _ _ (show de = de2 by omega)]
                   simp only [*, Bool.false_and, Bool.and_false, Bool.true_and, Bool.and_true]; done)
            · skip
              replace h6 := bnot_f h6
              refine V.skip ?_
              refine VE.then_wp ?_
              refine V.seq ?_
              refine V.region ?_
              refine VL.r (.inl rfl) rfl (by decide) (yr_assign (u := .bool true) rfl rfl) ?_
              refine VL.nil ?_
              refine VE.then_wp ?_
              refine V.ret ?_
              refine ret1 rfl rfl (fun w1 hw => ?_)
              refine ⟨congrArg Value.bool ?_, hw.below⟩
              have e1 := up_beq hs hs2
              rw [← e1]
              have n1 : ∀ x y : Int, ¬ x = y → (x == y) = false := fun x y h => by simpa using h
              have n2 : ∀ x y : Int, x = y → (x == y) = true := fun x y h => by simpa using h
              first
                | (simp only [*, Bool.false_and, Bool.and_false, Bool.true_and, Bool.and_true]; done)
                | (rw [n1 _ _ (show ¬ wi = wi2 by omega)]; simp only [*, Bool.false_and, Bool.and_false, Bool.true_and, Bool.and_true]; done)
                | (rw [n1 _ _ (show ¬ hi = hi2 by omega)]; simp only [*, Bool.false_and, Bool.and_false, Bool.true_and, Bool.and_true]; done)
                | (rw [n1 _ _ (show ¬ de = de2 by omega)]; simp only [*, Bool.false_and, Bool.and_false, Bool.true_and, Bool.and_true]; done)
                | (rw [n2 _ _ (show wi = wi2 by omega), n2 _ _ (show hi = hi2 by omega), n2 _ _ (show de = de2 by omega)]
                   simp only [*, Bool.false_and, Bool.and_false, Bool.true_and, Bool.and_true]; done)

end Go.Proofs.Ytnommdpgmoljcaa


namespace Go.Proofs.Ytnommdpgmoljcaa
open Go.RowKit

theorem ext_bits32 {P : Program} (vs : Array Value) (w : World) {x : Nat} (hn : fnan .f32 x = false) (h : vs.toList.map cn = [.float .f32 x]) : ∃ v w', (Extern.MathFloatBits.float32bits vs).run P w = .ok v w' ∧ cn v = .int .u32 x ∧ Below w.heap.size w w' := by
  obtain ⟨b, rfl, hb⟩ := one_arg h
  have hb' : b = x := by
    rw [← hb, fnan_cb] at hn
    rw [← hb, cb_num hn]
  subst hb'
  exact ⟨.int .u32 b, w, rfl, rfl, Below.refl _ _⟩
end Go.Proofs.Ytnommdpgmoljcaa


namespace Go.Proofs.Ytnommdpgmoljcaa
open Go.RowKit

theorem units_pos (f : Ieee.Format) {r : Nat} (h : r ≠ 0) : units f r ≠ 0 := fun e => h ((units_zero f).1 e)
/-- A number that the format has is written as its word. -/
theorem nearest_units (f : Ieee.Format) (s : Bool) {m r a b : Nat} {e : Int} (hr : r ≤ f.infRung) (he : e + a = f.leastPlace + b) (h : m * 2 ^ b = units f r * 2 ^ a) : f.nearest s m e = f.word s r := by
  unfold Ieee.Format.nearest
  have hpa := pow_pos' a
  have hpb := pow_pos' b
  by_cases hr0 : r = 0
  · subst hr0
    have hu : units f 0 = 0 := (units_zero f).2 rfl
    rw [hu, Nat.zero_mul] at h
    have hm : m = 0 := by
      rcases Nat.mul_eq_zero.1 h with h | h
      · exact h
      · omega
    rw [if_pos hm]
  · have hu := units_pos f hr0
    have hm : m ≠ 0 := by
      rintro rfl
      rw [Nat.zero_mul] at h
      rcases Nat.mul_eq_zero.1 h.symm with h | h
      · exact hu h
      · omega
    rw [if_neg hm]
    have hl : m.log2 + b = (units f r).log2 + a := by rw [← log2_mul_pow hm b, ← log2_mul_pow hu a, h]
    have hb : 0 < f.binade := pow_pos' _
    -- the kept digits, for any last place at which the number is whole
    have key : ∀ (q t : Nat), q ≠ 0 → units f r = q * 2 ^ t → Ieee.Toward.even.cut s (m <<< (e - (f.leastPlace + t)).toNat) ((f.leastPlace + t) - e).toNat = q := by
      intro q t hq hqt
      rw [hqt, Nat.mul_assoc, ← Nat.pow_add] at h
      rcases Nat.le_total (t + a) b with hle | hle
      · have e1 : (e - (f.leastPlace + t)).toNat = b - (t + a) := by omega
        have e2 : ((f.leastPlace + t) - e).toNat = 0 := by omega
        rw [e1, e2, cut_zero, shl_eq]
        have : b = (b - (t + a)) + (t + a) := by omega
        rw [this, Nat.pow_add, ← Nat.mul_assoc] at h
        exact Nat.eq_of_mul_eq_mul_right (pow_pos' _) h
      · have e1 : (e - (f.leastPlace + t)).toNat = 0 := by omega
        have e2 : ((f.leastPlace + t) - e).toNat = t + a - b := by omega
        have : t + a = (t + a - b) + b := by omega
        rw [this, Nat.pow_add, ← Nat.mul_assoc] at h
        have hm' := Nat.eq_of_mul_eq_mul_right hpb h
        rw [e1, e2, shl_eq, Nat.pow_zero, Nat.mul_one, hm']
        exact cut_exact s q _ hq
    by_cases hrb : r < f.binade
    · have hur : units f r = r := by unfold units; rw [if_pos hrb]
      have hlg : (units f r).log2 < f.fractionBits := by
        rw [hur]
        exact (Nat.log2_lt hr0).2 hrb
      have hlast : max (e + (m.log2 : Int) - (f.fractionBits : Int)) f.leastPlace = f.leastPlace + ((0 : Nat) : Int) := by omega
      simp only [hlast]
      have := key r 0 hr0 (by rw [hur]; simp)
      rw [this]
      simp
      rw [Nat.min_eq_left hr]
    · have hq1 : 1 ≤ r / f.binade := (Nat.le_div_iff_mul_le hb).2 (by omega)
      have hmod := Nat.mod_lt r hb
      have hur : units f r = (f.binade + r % f.binade) * 2 ^ (r / f.binade - 1) := by unfold units; rw [if_neg hrb]
      have hqne : f.binade + r % f.binade ≠ 0 := by omega
      have hlg : (units f r).log2 = f.fractionBits + (r / f.binade - 1) := by
        rw [hur, log2_mul_pow hqne]
        congr 1
        rw [Nat.log2_eq_iff hqne]
        have hbe : f.binade = 2 ^ f.fractionBits := rfl
        rw [Nat.pow_succ, ← hbe]
        omega
      have hlast : max (e + (m.log2 : Int) - (f.fractionBits : Int)) f.leastPlace = f.leastPlace + ((r / f.binade - 1 : Nat) : Int) := by omega
      simp only [hlast]
      rw [key _ _ hqne hur]
      congr 1
      have e1 : (f.leastPlace + ((r / f.binade - 1 : Nat) : Int) - f.leastPlace).toNat = r / f.binade - 1 := by omega
      rw [e1]
      have e2 := Nat.div_add_mod r f.binade
      have e3 : (r / f.binade - 1) * f.binade + (f.binade + r % f.binade) = r := by
        have : r / f.binade = (r / f.binade - 1) + 1 := by omega
        rw [this, Nat.mul_add, Nat.mul_one] at e2
        rw [Nat.mul_comm]
        omega
      rw [e3, Nat.min_eq_left hr]

theorem word_of (k : FloatKind) {x : Nat} (h : x < 2 ^ k.format.width) : k.format.word (sgn k.format x) (rng k.format x) = x := by
  rw [width_pos] at h
  have hp : 0 < k.format.signWeight := pow_pos' _
  have h1 : x / k.format.signWeight < 2 := (Nat.div_lt_iff_lt_mul hp).2 h
  have e1 := Nat.div_add_mod x k.format.signWeight
  unfold Ieee.Format.word sgn rng
  rw [Nat.mod_eq_of_lt h1]
  generalize x / k.format.signWeight = q at *
  have hq : q = 0 ∨ q = 1 := by omega
  rcases hq with rfl | rfl
  · simp; omega
  · simp; omega
/-- The absolute value: without the sign. -/
def fabs (k : FloatKind) (x : Nat) : Nat := if fnan k x then qn k else x % k.format.signWeight
theorem rng_abs (f : Ieee.Format) (x : Nat) : rng f (x % f.signWeight) = rng f x := Nat.mod_mod _ _
theorem sgn_abs (f : Ieee.Format) (x : Nat) : sgn f (x % f.signWeight) = false := by
  have hp : 0 < f.signWeight := pow_pos' _
  unfold sgn
  rw [Nat.div_eq_of_lt (Nat.mod_lt _ hp)]
  rfl
theorem fnan_rng (k : FloatKind) (x : Nat) : fnan k x = decide (k.format.infRung < rng k.format x) := by
  cases h : fnan k x
  · have := rng_le h
    symm; exact decide_eq_false (by omega)
  · symm
    apply decide_eq_true
    apply Classical.byContradiction
    intro hn
    rcases Nat.lt_or_ge (rng k.format x) k.format.infRung with h1 | h1
    · obtain ⟨m, e, h2, _⟩ := read_number k.format h1
      unfold fnan FloatKind.decode at h
      rw [h2] at h
      cases h
    · have h2 := read_inf k (x := x) (by omega)
      unfold fnan FloatKind.decode at h
      rw [h2] at h
      cases h
theorem fnan_abs (k : FloatKind) (x : Nat) : fnan k (x % k.format.signWeight) = fnan k x := by rw [fnan_rng, fnan_rng, rng_abs]
theorem sw_lt (k : FloatKind) : k.format.signWeight < 2 ^ k.format.width := by cases k <;> decide
theorem can_fabs (k : FloatKind) (x : Nat) : Can k (fabs k x) := by
  unfold fabs
  split
  · exact ⟨by rw [cb_of_nan (fnan_qn k)], qn_lt k⟩
  · rename_i h
    have hp : 0 < k.format.signWeight := pow_pos' _
    exact ⟨cb_num (by rw [fnan_abs]; simpa using h), Nat.lt_trans (Nat.mod_lt _ hp) (sw_lt k)⟩

theorem rng_word (k : FloatKind) (s : Bool) {r : Nat} (h : r ≤ k.format.infRung) : rng k.format (k.format.word s r) = r ∧ sgn k.format (k.format.word s r) = s := by
  have hlt : r < k.format.signWeight := Nat.lt_of_le_of_lt h (by cases k <;> decide)
  have hp : 0 < k.format.signWeight := pow_pos' _
  unfold rng sgn Ieee.Format.word
  cases s
  · simp only [Bool.false_eq_true, if_false]
    rw [Nat.mod_eq_of_lt hlt, Nat.div_eq_of_lt hlt]
    exact ⟨rfl, rfl⟩
  · simp only [if_true]
    rw [Nat.add_mod_left, Nat.mod_eq_of_lt hlt, Nat.add_div_left _ hp, Nat.div_eq_of_lt hlt]
    exact ⟨rfl, rfl⟩

/-- A 64-bit word that stands for a 32-bit number is narrowed to it. -/
theorem down_exact {X r : Nat} (hX : rng Ieee.double X < Ieee.double.infRung) (hr : r < Ieee.single.infRung) (hu : units Ieee.double (rng Ieee.double X) = units Ieee.single r * upK) :
    fconv .f64 .f32 X = Ieee.single.word (sgn Ieee.double X) r ∧ fover .f64 .f32 X = false := by
  obtain ⟨m, e, h1, h2⟩ := read_number Ieee.double hX
  have hn : Ieee.single.nearest (sgn Ieee.double X) m (Ieee.double.leastPlace + (e : Nat)) = Ieee.single.word (sgn Ieee.double X) r := by
    refine nearest_units Ieee.single _ (a := 925) (b := e) (Nat.le_of_lt hr) ?_ ?_
    · have hlp : Ieee.double.leastPlace = -1074 := by decide
      have hlp' : Ieee.single.leastPlace = -149 := by decide
      rw [hlp, hlp']; omega
    · rw [h2, hu, upK, pow2]
  have hd : FloatKind.f64.decode X = .number (sgn Ieee.double X) m (Ieee.double.leastPlace + (e : Nat)) := h1
  constructor
  · unfold fconv
    rw [if_neg (by decide), hd]
    exact hn
  · unfold fover
    rw [if_neg (by decide), hd]
    have : FloatKind.f32.encode (.number (sgn Ieee.double X) m (Ieee.double.leastPlace + (e : Nat))) = Ieee.single.word (sgn Ieee.double X) r := hn
    simp only [this]
    have hw := rng_word .f32 (sgn Ieee.double X) (r := r) (Nat.le_of_lt hr)
    obtain ⟨m', e', h3, _⟩ := read_number Ieee.single (x := Ieee.single.word (sgn Ieee.double X) r) (by
      have := hw.1
      change rng Ieee.single (Ieee.single.word _ r) = r at this
      omega)
    have : FloatKind.f32.decode (Ieee.single.word (sgn Ieee.double X) r) = .number (sgn Ieee.single (Ieee.single.word (sgn Ieee.double X) r)) m' (Ieee.single.leastPlace + (e' : Nat)) := h3
    rw [this]; rfl

/-- The absolute value, by way of 64 bits. -/
theorem abs_down (y : Nat) : fconv .f64 .f32 (fabs .f64 (fconv .f32 .f64 y)) = fabs .f32 y ∧ fover .f64 .f32 (fabs .f64 (fconv .f32 .f64 y)) = false := by
  change fconv .f64 .f32 (fabs .f64 (up y)) = fabs .f32 y ∧ fover .f64 .f32 (fabs .f64 (up y)) = false
  unfold fabs
  rw [fnan_up]
  cases hn : fnan .f32 y
  · simp only [Bool.false_eq_true, if_false]
    have hle := rng_le hn
    rcases Nat.lt_or_ge (rng Ieee.single y) Ieee.single.infRung with h | h
    · obtain ⟨_, h2, h3⟩ := up_number h
      have := down_exact (X := up y % Ieee.double.signWeight) (r := rng Ieee.single y) (by rw [rng_abs]; exact h2) h (by rw [rng_abs]; exact h3)
      rw [sgn_abs] at this
      exact this
    · have h' : rng Ieee.single y = Ieee.single.infRung := Nat.le_antisymm hle h
      rw [up_inf h']
      have e1 : Ieee.double.word (sgn Ieee.single y) Ieee.double.infRung % FloatKind.f64.format.signWeight = 9218868437227405312 := by cases sgn Ieee.single y <;> decide
      rw [e1]
      have e2 : y % FloatKind.f32.format.signWeight = 2139095040 := h'
      rw [e2]
      decide
  · simp only [if_true]
    decide

theorem cb_abs64 (b : Nat) : cb .f64 (b % 9223372036854775808) = fabs .f64 (cb .f64 b) := by
  have e : ∀ x, fnan .f64 (x % 9223372036854775808) = fnan .f64 x := fnan_abs .f64
  unfold fabs
  rw [fnan_cb]
  cases hn : fnan .f64 b
  · rw [cb_num (by rw [e, hn]), cb_num hn]; rfl
  · rw [cb_of_nan (by rw [e, hn])]; rfl
end Go.Proofs.Ytnommdpgmoljcaa


namespace Go.Proofs.Ytnommdpgmoljcaa
open Go.RowKit

theorem fin_of_rng {x : Nat} (h : rng Ieee.single x < Ieee.single.infRung) : fin x = true := by
  have key : fop .sub .f32 x x = Ieee.single.word false 0 := by
    obtain ⟨m, e, h1, h2⟩ := read_number Ieee.single h
    unfold fop floatBits Ieee.Format.sub
    simp only [show FloatKind.f32.format = Ieee.single from rfl, h1, Ieee.Datum.opposite, Ieee.Datum.sum, Option.map_some, Option.getD_some, signed_val, Int.min_self, Int.sub_self]
    show Ieee.single.nearest _ _ _ = _
    have e1 : ∀ (s : Bool) (u : Int), (if s = true then -u else u) + (if (!s) = true then -u else u) = 0 := by
      intro s u; cases s <;> simp <;> omega
    rw [e1]
    simp only [if_true, Int.natAbs_zero]
    have e2 : (sgn Ieee.single x && !sgn Ieee.single x) = false := by cases sgn Ieee.single x <;> rfl
    rw [e2]
    exact nearest_units Ieee.single false (a := 0) (b := e) (Nat.zero_le _) (by omega) (by simp [(units_zero Ieee.single).2 rfl])
  unfold fin
  rw [key]
  decide
def unit3 (v : V3) : V3 := scale3 v (fop .quo .f32 1065353216 (long3 v))
def dirI (ws : List Wr) (p : V3) : V3 := unit3 (fieldI ws p)
def dirOk (ws : List Wr) (p : V3) : Bool := fin3 p && fin3 (dirI ws p)
def dirV (ws : List Wr) (p : V3) : V3 := if dirOk ws p then dirI ws p else z3
def midI (ws : List Wr) (p : V3) (st : Nat) : V3 := add3 p (scale3 (dirI ws p) (fop .mul .f32 1056964608 st))
def endI (ws : List Wr) (p : V3) (st : Nat) : V3 := add3 p (scale3 (dirI ws (midI ws p st)) st)
def stepOk (ws : List Wr) (p : V3) (st : Nat) : Bool := dirOk ws p && dirOk ws (midI ws p st) && fin3 (endI ws p st)
def stepV (ws : List Wr) (p : V3) (st : Nat) : V3 := if stepOk ws p st then endI ws p st else z3
section
variable {ws : List Wr} {p m : V3} {st : Nat}
end

/-! ### the checked step -/
section
variable {ws : List Wr} {p m : V3} {st : Nat}
end
end Go.Proofs.Ytnommdpgmoljcaa


namespace Go.Proofs.Ytnommdpgmoljcaa
open Go.RowKit

end Go.Proofs.Ytnommdpgmoljcaa


namespace Go.Proofs.Ytnommdpgmoljcaa
open Go.RowKit

/-- The double x stands for a number below 2 ^ (t + 1). -/
def small (t : Int) (x : Nat) : Prop := ∃ s m e, FloatKind.f64.decode x = .number s m e ∧ e + (m.log2 : Int) ≤ t
theorem log2_lt' {m k : Nat} (h : m < 2 ^ k) (hk : 0 < k) : m.log2 < k := by
  rcases Nat.eq_zero_or_pos m with h0 | h0
  · subst h0; simpa using hk
  · exact (Nat.log2_lt (by omega)).2 h
theorem lt_log2 (m : Nat) : m < 2 ^ (m.log2 + 1) := Nat.lt_log2_self
theorem log2_mono {a b : Nat} (h : a ≤ b) : a.log2 ≤ b.log2 := by
  rcases Nat.eq_zero_or_pos a with h0 | h0
  · subst h0; simp
  · have := Nat.log2_self_le (n := a) (by omega)
    have h2 : 2 ^ a.log2 < 2 ^ (b.log2 + 1) := Nat.lt_of_le_of_lt this (Nat.lt_of_le_of_lt h (lt_log2 b))
    have := (Nat.pow_lt_pow_iff_right (a := 2) (by decide)).1 h2
    omega
theorem small_encode (s : Bool) {m : Nat} {e : Int} {t : Nat} (h : e + (m.log2 : Int) ≤ t) (ht : t ≤ 60) : small (t + 2) (FloatKind.f64.encode (.number s m e)) := by
  obtain ⟨m', e', g1, g2⟩ := encode_small s (m := m) (e := e) (t := t + 1022) (by omega) (by omega)
  exact ⟨s, m', e', g1, by omega⟩
theorem small_quo {a b : Nat} {sa sb : Bool} {m n i j : Nat} (ha : Ieee.double.read a = .number sa m (-1074 + (i : Int))) (hb : Ieee.double.read b = .number sb n (-1074 + (j : Int))) (hn : n ≠ 0) (h : i + m.log2 ≤ j + n.log2) : small 2 (fop .quo .f64 a b) := by
  have e : fop .quo .f64 a b = ((((Ieee.double.read a).quotient 54 (Ieee.double.read b)).map Ieee.double.write).getD (qn .f64)) := rfl
  rw [e, ha, hb]
  simp only [Ieee.Datum.quotient, if_neg hn, Option.map_some, Option.getD_some]
  refine small_encode (t := 0) (sa ^^ sb) ?_ (by omega)
  generalize hM : 54 + n.log2 - m.log2 = more
  have hK : (m <<< more) / n < 2 ^ (more + m.log2 + 1 - n.log2) := by
    rw [shl_eq]
    have h1 : m * 2 ^ more < 2 ^ (more + m.log2 + 1) := by
      have := Nat.mul_lt_mul_of_pos_right (lt_log2 m) (pow_pos' more)
      rw [← Nat.pow_add] at this
      rwa [show more + m.log2 + 1 = m.log2 + 1 + more by omega]
    have h2 : 2 ^ (more + m.log2 + 1) = 2 ^ (more + m.log2 + 1 - n.log2) * 2 ^ n.log2 := by rw [← Nat.pow_add]; congr 1; omega
    have h3 : 2 ^ n.log2 ≤ n := Nat.log2_self_le hn
    rw [Nat.div_lt_iff_lt_mul (by omega)]
    rw [h2] at h1
    exact Nat.lt_of_lt_of_le h1 (Nat.mul_le_mul_left _ h3)
  generalize (m <<< more) / n = q at hK
  have hmag : (2 * q + ((m <<< more) % n != 0).toNat).log2 < more + m.log2 + 1 - n.log2 + 1 := by
    refine log2_lt' ?_ (by omega)
    rw [Nat.pow_succ]
    have : ((m <<< more) % n != 0).toNat ≤ 1 := Bool.toNat_le _
    omega
  omega
theorem small_mul {a b : Nat} {t u : Nat} (ha : small t a) (hb : small u b) (htu : t + u + 1 ≤ 60) : small (t + u + 1 + 2) (fop .mul .f64 a b) := by
  obtain ⟨s, m, e, h1, h2⟩ := ha
  obtain ⟨s', m', e', h3, h4⟩ := hb
  have ex : fop .mul .f64 a b = ((((Ieee.double.read a).product (Ieee.double.read b)).map Ieee.double.write).getD (qn .f64)) := rfl
  have h1' : Ieee.double.read a = .number s m e := h1
  have h3' : Ieee.double.read b = .number s' m' e' := h3
  rw [ex, h1', h3']
  simp only [Ieee.Datum.product, Option.map_some, Option.getD_some]
  have hl : (m * m').log2 ≤ m.log2 + m'.log2 + 1 := by
    have h5 : m * m' < 2 ^ (m.log2 + m'.log2 + 2) := by
      rcases Nat.eq_zero_or_pos m' with h0 | h0
      · rw [h0, Nat.mul_zero]; exact pow_pos' _
      · have := Nat.mul_lt_mul'' (lt_log2 m) (lt_log2 m')
        rw [← Nat.pow_add] at this
        rwa [show m.log2 + m'.log2 + 2 = m.log2 + 1 + (m'.log2 + 1) by omega]
    have := log2_lt' h5 (by omega)
    omega
  have := small_encode (s ^^ s') (m := m * m') (e := e + e') (t := t + u + 1) (by push_cast; omega) htu
  show small _ (FloatKind.f64.encode _)
  simpa using this
theorem small_round {a : Nat} {t : Nat} (ha : small t a) (ht : t ≤ 50) : small (t + 2 + 2) (fround a) := by
  obtain ⟨s, m, e, h1, h2⟩ := ha
  unfold fround
  rw [h1]
  simp only [Ieee.Datum.integral]
  have hc : Ieee.Toward.even.cut s (m <<< e.toNat) (-e).toNat ≤ 2 ^ (t + 1) + 1 := by
    refine Nat.le_trans (cut_le _ _ _) ?_
    refine Nat.add_le_add_right ?_ 1
    rw [shl_eq]
    have hm := lt_log2 m
    rcases Int.le_total e 0 with h | h
    · rw [show e.toNat = 0 by omega, Nat.pow_zero, Nat.mul_one]
      by_cases hd : (-e).toNat ≤ m.log2 + 2
      · rw [Nat.min_eq_left hd]
        refine Nat.div_le_of_le_mul ?_
        rw [← Nat.pow_add]
        exact Nat.le_of_lt (Nat.lt_of_lt_of_le hm (Nat.pow_le_pow_right (by decide) (by omega)))
      · rw [Nat.min_eq_right (by omega), Nat.div_eq_of_lt (Nat.lt_of_lt_of_le hm (Nat.pow_le_pow_right (by decide) (by omega)))]
        exact Nat.zero_le _
    · rw [show (-e).toNat = 0 by omega, Nat.zero_min, Nat.pow_zero, Nat.div_one]
      have := Nat.mul_lt_mul_of_pos_right hm (pow_pos' e.toNat)
      rw [← Nat.pow_add] at this
      exact Nat.le_of_lt (Nat.lt_of_lt_of_le this (Nat.pow_le_pow_right (by decide) (by omega)))
  have hl : (Ieee.Toward.even.cut s (m <<< e.toNat) (-e).toNat).log2 ≤ t + 2 := by
    have h5 : Ieee.Toward.even.cut s (m <<< e.toNat) (-e).toNat < 2 ^ (t + 3) := by
      have h6 : 2 ^ (t + 3) = 2 ^ (t + 1) * 4 := by rw [show t + 3 = t + 1 + 2 by omega, Nat.pow_add]
      have := pow_pos' (t + 1)
      omega
    have := log2_lt' h5 (by omega)
    omega
  have := small_encode s (m := Ieee.Toward.even.cut s (m <<< e.toNat) (-e).toNat) (e := 0) (t := t + 2) (by omega) (by omega)
  simpa using this
theorem small_int {a : Nat} {t : Nat} (ha : small t a) (ht : t ≤ 60) : ∃ i, floatToIntVal .f64 a .i64 = some i := by
  obtain ⟨s, m, e, h1, h2⟩ := ha
  unfold floatToIntVal
  rw [h1]
  simp only [Ieee.Datum.toInt, Ieee.Datum.integral]
  have hcut : Ieee.Toward.zero.cut s (m <<< e.toNat) (-e).toNat ≤ 2 ^ 61 := by
    have hz : Ieee.Toward.zero.cut s (m <<< e.toNat) (-e).toNat ≤ (m <<< e.toNat) / 2 ^ (-e).toNat := by
      unfold Ieee.Toward.cut
      simp only [Bool.toNat_false, Nat.add_zero, Nat.shiftLeft_eq, Nat.one_mul]
      generalize m * 2 ^ e.toNat = n
      generalize (-e).toNat = d
      by_cases h : d ≤ n.log2 + 2
      · rw [Nat.min_eq_left h]; exact Nat.le_refl _
      · rw [Nat.min_eq_right (by omega)]
        have : n / 2 ^ (n.log2 + 2) = 0 := Nat.div_eq_of_lt (Nat.lt_of_lt_of_le Nat.lt_log2_self (Nat.pow_le_pow_right (by decide) (by omega)))
        rw [this]; exact Nat.zero_le _
    refine Nat.le_trans hz ?_
    rw [shl_eq]
    have hm := lt_log2 m
    rcases Int.le_total e 0 with h | h
    · rw [show e.toNat = 0 by omega, Nat.pow_zero, Nat.mul_one]
      refine Nat.div_le_of_le_mul ?_
      rw [← Nat.pow_add]
      exact Nat.le_of_lt (Nat.lt_of_lt_of_le hm (Nat.pow_le_pow_right (by decide) (by omega)))
    · rw [show (-e).toNat = 0 by omega, Nat.pow_zero, Nat.div_one]
      have := Nat.mul_lt_mul_of_pos_right hm (pow_pos' e.toNat)
      rw [← Nat.pow_add] at this
      exact Nat.le_of_lt (Nat.lt_of_lt_of_le this (Nat.pow_le_pow_right (by decide) (by omega)))
  have hmin : IntKind.i64.min = -9223372036854775808 := by decide
  have hmax : IntKind.i64.max = 9223372036854775807 := by decide
  have h61 : (2 : Nat) ^ 61 = 2305843009213693952 := by decide
  refine ⟨_, if_pos ?_⟩
  rw [hmin, hmax]
  unfold Ieee.signed
  rw [shl_eq, Nat.pow_zero, Nat.mul_one]
  split <;> omega
/-- A number by the scale. -/
def qf (s x : Nat) : Nat := fround (fop .mul .f64 4674736138332667904 (fop .quo .f64 (up x) (up s)))
theorem qf_int {s x : Nat} (hx : rng Ieee.single x < Ieee.single.infRung) (hs : rng Ieee.single s < Ieee.single.infRung) (hs0 : rng Ieee.single s ≠ 0) (hle : units Ieee.single (rng Ieee.single x) ≤ units Ieee.single (rng Ieee.single s)) : ∃ i, floatToIntVal .f64 (qf s x) .i64 = some i := by
  obtain ⟨_, g2, g3⟩ := up_number hx
  obtain ⟨_, k2, k3⟩ := up_number hs
  obtain ⟨m, i, r1, r2⟩ := read_number Ieee.double g2
  obtain ⟨n, j, r3, r4⟩ := read_number Ieee.double k2
  have hlp : Ieee.double.leastPlace = -1074 := by decide
  rw [hlp] at r1 r3
  have hn0 : n * 2 ^ j ≠ 0 := by
    rw [r4, k3]
    exact Nat.mul_ne_zero (units_pos _ hs0) (Nat.pos_iff_ne_zero.1 upK_pos)
  have hn : n ≠ 0 := fun h => hn0 (by rw [h, Nat.zero_mul])
  have hle' : m * 2 ^ i ≤ n * 2 ^ j := by
    rw [r2, r4, g3, k3]; exact Nat.mul_le_mul_right _ hle
  have hlog : i + m.log2 ≤ j + n.log2 := by
    rcases Nat.eq_zero_or_pos m with h0 | h0
    · subst h0
      have : i = 0 := by
        -- the word of zero
        have hu : units Ieee.double (rng Ieee.double (up x)) = 0 := by rw [← r2, Nat.zero_mul]
        have hr0 := (units_zero Ieee.double).1 hu
        have hsm : Ieee.double.read (up x) = .number (sgn Ieee.double (up x)) 0 (-1074) := by
          unfold rng at hr0
          unfold Ieee.Format.read
          simp only [hr0]
          rw [if_pos (by decide), hlp]; rfl
        rw [hsm] at r1
        injection r1 with _ _ h3
        omega
      have : Nat.log2 0 = 0 := by decide
      omega
    · have := log2_mono hle'
      rw [log2_mul_pow (by omega), log2_mul_pow hn] at this
      omega
  have q1 := small_quo r1 r3 hn hlog
  have c1 : small (14 : Nat) 4674736138332667904 := ⟨false, 9006924376834048, -38, by decide, by decide⟩
  have q2 := small_mul (t := 14) (u := 2) c1 q1 (by decide)
  have q3 := small_round (t := 19) (by simpa using q2) (by decide)
  exact small_int (t := 23) (by show small _ (fround _); simpa using q3) (by decide)
end Go.Proofs.Ytnommdpgmoljcaa


namespace Go.Proofs.Ytnommdpgmoljcaa
open Go.RowKit

/-- bytes in memory; a text of bytes -/
def bl (bs : List Int) : List Value := bs.map (Value.int .u8)
def stb (bs : List Int) : ByteArray := ⟨(bs.map fun n => UInt8.ofNat n.toNat).toArray⟩
theorem bl_length (bs : List Int) : (bl bs).length = bs.length := by simp [bl]
theorem bl_scal (bs : List Int) : (bl bs).all scal = true := by
  rw [List.all_eq_true]
  intro v hv
  obtain ⟨b, _, rfl⟩ := List.mem_map.1 hv
  rfl
theorem bl_append (xs ys : List Int) : bl xs ++ bl ys = bl (xs ++ ys) := by simp [bl]
theorem stb_size (bs : List Int) : (stb bs).size = bs.length := by simp [stb, ByteArray.size]

theorem pushes (bs : List Int) : ∀ s : ByteArray, bs.foldl (fun r n => r.push (UInt8.ofNat n.toNat)) s = ⟨s.data ++ (bs.map fun n => UInt8.ofNat n.toNat).toArray⟩ := by
  induction bs with
  | nil => intro s; simp
  | cons b bs ih =>
    intro s
    rw [List.foldl_cons, ih]
    simp [ByteArray.push]

/-- two texts compared -/
def scmp (op : BinOp) (a b : ByteArray) : Bool := match op with | .eql => a.toList == b.toList | _ => !(a.toList == b.toList)
@[simp] theorem scmp_ne_self (a : ByteArray) : scmp .neq a a = false := by simp [scmp]
@[simp] theorem scmp_eq_self (a : ByteArray) : scmp .eql a a = true := by simp [scmp]
section
variable {P : Program} {w0 : World} {O : List Ent} {E : Env} {o : Oper}
theorem yr_scmp {op : BinOp} {t ty : TypeId} {x y : Operand} {a b : ByteArray} (ho : o.op = .binOp op t x y ty) (hx : E.opd x = some (.string a)) (hy : E.opd y = some (.string b)) (hop : op = .eql ∨ op = .neq) : YR P E o (.bool (scmp op a b)) := yr_of fun ρ w hE => by
  have h1 := cn_string (hE.get (x := x) (by simp [ho, Op.operands]) hx)
  have h2 := cn_string (hE.get (x := y) (by simp [ho, Op.operands]) hy)
  refine ⟨.bool (scmp op a b), ?_, rfl⟩
  rcases hop with rfl | rfl <;> simp [execOp, ho, h1, h2, eqGuard, binOp, Op.stringOp, scmp]
/-- string(bytes) -/
theorem yq_bts {src dst e : TypeId} {x : Operand} {a : Option Addr} {m c : Nat} {bs : List Int} (ho : o.op = .convert src dst x) (hs : P.underlying src = some (.slice e)) (he : P.underlying e = some (.int .u8)) (hd : P.underlying dst = some .string)
    (hx : E.opd x = some (.slice a m c)) (hsee : Sees w0 O a (bl bs)) (hm : m = bs.length) : YQ P w0 O E o (.string (stb bs)) := by
  subst hm
  intro ρ w hE hw
  have e1 := cn_slice (hE.get (x := x) (by simp [ho, Op.operands]) hx)
  have key : (Conv.bytesToString (.slice a bs.length c)).run P w = .ok (.string (stb bs)) w := by
    cases bs with
    | nil =>
      cases a with
      | none => simp [Conv.bytesToString, stb]; rfl
      | some p =>
        have h0 : (Conv.bytesToString (.slice (some p) 0 c)).run P w = _ := run_bytesToString w p 0 c [] (by simp [loadCells, loadCellsFrom])
        exact h0
    | cons b bs =>
      rcases hsee w hw with h | ⟨p, rfl, hsp, h⟩
      · cases h
      · have hcl : Cl w (some p) (bl (b :: bs)) := .inr ⟨p, rfl, hsp, h⟩
        obtain ⟨vs, h1, h2, h3⟩ := hcl.cellsN (bl (b :: bs)) 0 (fun j u hj => by simpa using hj)
        have hvs : vs = (bl (b :: bs)) := by
          apply List.ext_getElem?
          intro j
          have h4 := congrArg (fun l => l[j]?) h3
          simp only [List.getElem?_map] at h4
          cases hv : vs[j]? with
          | none => rw [hv] at h4; simpa using h4
          | some v =>
            rw [hv] at h4
            simp only [Option.map_some, bl, List.getElem?_map] at h4 ⊢
            cases hb : (b :: bs)[j]? with
            | none => rw [hb] at h4; cases h4
            | some y =>
              rw [hb] at h4
              simp only [Option.map_some, Option.some.injEq] at h4 ⊢
              exact cn_int h4
        have hload := run_loadCells_adr (P := P) (w := w) (a := some p) (k := 0) vs h2
        have hp : adr (some p) 0 = p := by
          obtain ⟨pb, po, ps⟩ := p
          simp only at hsp
          subst hsp
          simp [adr]
        rw [hp, h1, bl_length] at hload
        have hl' : (loadCells p (b :: bs).length).run P w = .ok ((b :: bs).map (Value.int .u8)).toArray w := by
          rw [hload, hvs]; rfl
        rw [run_bytesToString w p _ c _ hl', pushes]
        simp [stb]
  have hr : (execOp ρ o).run P w = .ok (.value (.string (stb bs))) w := by
    simp [execOp, ho, e1, run_convert_bytes_string w src dst e a _ c hs he hd, key]
  rw [hr]
  exact ⟨by simp [cn, cn1, cn0], Below.refl _ _⟩

theorem Frz.freeze {w : World} {b : Nat} {c : Array Value} {ty : TypeId} (h : Frz w b c ty) : Frz (w.freeze ⟨b, c.size, none⟩ 1) b c ty := by
  obtain ⟨z, h, hz⟩ := h
  refine ⟨(c.size, c.size + 1), ?_, .inr rfl⟩
  unfold World.freeze
  rw [if_neg (by decide)]
  simp only [Array.getElem?_modify, h]
  rcases hz with rfl | rfl
  · simp
  · simp
theorem freeze_other {w : World} {b n k : Nat} (hk : k ≠ b) : (w.freeze ⟨b, n, none⟩ 1).heap[k]? = w.heap[k]? := by
  unfold World.freeze
  rw [if_neg (by decide)]
  simp only [Array.getElem?_modify]
  rw [if_neg (fun h => hk h.symm)]
theorem Hp.freeze {w : World} {b : Nat} {c : Array Value} {ty : TypeId} (hw : Hp w0 O w) (hb : w0.heap.size ≤ b) (h : Frz w b c ty) : Hp w0 O (w.freeze ⟨b, c.size, none⟩ 1) := by
  have ht : Turns w b (w.freeze ⟨b, c.size, none⟩ 1) := by
    refine ⟨?_, ?_, ?_, ?_, fun k _ hk => freeze_other hk⟩ <;> (unfold World.freeze; rw [if_neg (by decide)])
    simp
  refine ⟨Below.of_turns hw.below ht hb, fun e he => ?_, hw.apart⟩
  rcases hw.ents e he with h1 | ⟨b', c', h1, h2, h3, h4⟩
  · exact .inl h1
  · refine .inr ⟨b', c', h1, h2, ?_, h4⟩
    by_cases hbb : b' = b
    · subst hbb
      have hcc : c' = c ∧ e.ty = ty := by
        obtain ⟨z, g1, _⟩ := h
        obtain ⟨z', g2, _⟩ := h3
        rw [g1] at g2
        injection g2 with g2
        injection g2 with g2 g3
        exact ⟨g2.symm, g3.symm⟩
      rw [hcc.1, hcc.2]
      exact h.freeze
    · exact h3.same (freeze_other hbb)
/-- []byte("..."): the row's conversion to its own type -/
theorem yc_own8 {t e : TypeId} {x : Operand} {b m c cap : Nat} {us : List Value} {ty : TypeId} (ho : o.op = .convert t t x) (ht : P.underlying t = some (.slice e)) (he : P.underlying e = some (.int .u8))
    (hx : E.opd x = some (.slice (some ⟨b, 0, none⟩) m c)) (hO : (⟨some ⟨b, 0, none⟩, us, cap, ty⟩ : Ent) ∈ O) (hc : cap ≠ 0) : YC P w0 O E o (fun _ : Unit => .slice (some ⟨b, 0, none⟩) m c) (fun _ => O) := by
  intro ρ w F hE hw
  have e1 := cn_slice (hE.get (x := x) (by simp [ho, Op.operands]) hx)
  rcases hw.ents _ (List.mem_append_right F hO) with h | ⟨b', c', h1, h2, h3, h4⟩
  · exact absurd h.2 hc
  · simp only [Option.some.injEq, Addr.mk.injEq, and_true] at h1
    subst h1
    have hsh : w.shape? b = some (ty, c'.size) := by
      obtain ⟨z, g, _⟩ := h3
      simp [World.shape?, g]
    have hr : (execOp ρ o).run P w = .ok (.value (.slice (some ⟨b, 0, none⟩) m c)) (w.freeze ⟨b, c'.size, none⟩ 1) := by
      simp [execOp, ho, e1, convert, run_underlying ht, run_underlying he, markStringish, hsh]
    rw [hr]
    exact ⟨(), by simp [cn, cn1, cn0], hw.freeze h2 h3⟩
end
end Go.Proofs.Ytnommdpgmoljcaa


namespace Go.Proofs.Ytnommdpgmoljcaa
open Go.RowKit

theorem fin_rng {x : Nat} (h : fin x = true) : rng Ieee.single x < Ieee.single.infRung := by
  rcases Nat.lt_or_ge (rng Ieee.single x) Ieee.single.infRung with hl | hl
  · exact hl
  · exfalso
    have hq : fop .sub .f32 x x = qn .f32 := by
      cases hn : fnan .f32 x
      · have hi : Ieee.single.read x = .infinity (sgn Ieee.single x) := read_inf .f32 (Nat.le_antisymm (rng_le hn) hl)
        unfold fop floatBits Ieee.Format.sub
        simp only [show FloatKind.f32.format = Ieee.single from rfl, hi]
        generalize sgn Ieee.single x = s
        cases s <;> decide
      · simp [fop, floatBits_nan_left hn]
    unfold fin at h
    rw [hq] at h
    revert h
    decide
theorem fin_nan {x : Nat} (h : fin x = true) : fnan .f32 x = false := by
  rw [fnan_rng]
  have := fin_rng h
  exact decide_eq_false (by show ¬ Ieee.single.infRung < rng Ieee.single x; omega)
theorem xor_top {n r : Nat} (h : r < 2 ^ n) : (2 ^ n + r) ^^^ 2 ^ n = r := by
  apply Nat.eq_of_testBit_eq
  intro j
  rw [Nat.testBit_xor, Nat.testBit_two_pow]
  rcases Nat.lt_trichotomy j n with hj | hj | hj
  · rw [Nat.testBit_two_pow_add_gt hj, decide_eq_false (by omega), Bool.xor_false]
  · subst hj
    rw [Nat.testBit_two_pow_add_eq, decide_eq_true rfl, Nat.testBit_lt_two_pow h]; rfl
  · have h2 : 2 ^ n + r < 2 ^ j := by
      have : 2 ^ (n + 1) ≤ 2 ^ j := Nat.pow_le_pow_right (by decide) hj
      rw [Nat.pow_succ] at this
      omega
    rw [Nat.testBit_lt_two_pow h2, decide_eq_false (by omega), Nat.testBit_lt_two_pow (by omega)]; rfl

/-- What is not below zero, a number. -/
def pos (s : Nat) : Prop := rng Ieee.single s < Ieee.single.infRung ∧ sgn Ieee.single s = false
theorem pos_0 : pos 0 := by constructor <;> decide
theorem fabs_fin {x : Nat} (h : fin x = true) : fabs .f32 x = x % Ieee.single.signWeight := by unfold fabs; rw [fin_nan h]; rfl
theorem pos_fabs {x : Nat} (h : fin x = true) : pos (fabs .f32 x) := by
  rw [fabs_fin h]
  exact ⟨by rw [rng_abs]; exact fin_rng h, sgn_abs _ _⟩
theorem rng_fabs {x : Nat} (h : fin x = true) : rng Ieee.single (fabs .f32 x) = rng Ieee.single x := by rw [fabs_fin h, rng_abs]
/-- The greater of what it was and the number without its sign. -/
def scN (s x : Nat) : Nat := if fcmp .gtr .f32 (fabs .f32 x) s then fabs .f32 x else s
theorem pos_scN {s x : Nat} (hs : pos s) (h : fin x = true) : pos (scN s x) := by unfold scN; split; exact pos_fabs h; exact hs
theorem sval_pos {s : Nat} (h : pos s) : sval Ieee.single s = (units Ieee.single (rng Ieee.single s) : Int) := by unfold sval; rw [h.2]; rfl
theorem gtr_pos {a b : Nat} (ha : rng Ieee.single a < Ieee.single.infRung) (hb : rng Ieee.single b < Ieee.single.infRung) : fcmp .gtr .f32 a b = decide (sval Ieee.single b < sval Ieee.single a) := by
  unfold fcmp
  simp only
  rw [order_number (k := .f32) ha hb, Option.some_beq_some]
  show (compare (sval Ieee.single a) (sval Ieee.single b) == .gt) = _
  by_cases h : sval Ieee.single b < sval Ieee.single a
  · rw [decide_eq_true h, beq_iff_eq]; exact Int.compare_eq_gt.2 h
  · rw [decide_eq_false h, beq_eq_false_iff_ne]; exact fun g => h (Int.compare_eq_gt.1 g)
theorem lss_pos {a b : Nat} (ha : rng Ieee.single a < Ieee.single.infRung) (hb : rng Ieee.single b < Ieee.single.infRung) : fcmp .lss .f32 a b = decide (sval Ieee.single a < sval Ieee.single b) := by
  unfold fcmp
  simp only
  rw [order_number (k := .f32) ha hb, Option.some_beq_some]
  show (compare (sval Ieee.single a) (sval Ieee.single b) == .lt) = _
  by_cases h : sval Ieee.single a < sval Ieee.single b
  · rw [decide_eq_true h, beq_iff_eq]; exact Int.compare_eq_lt.2 h
  · rw [decide_eq_false h, beq_eq_false_iff_ne]; exact fun g => h (Int.compare_eq_lt.1 g)
theorem le_scN {s x : Nat} (hs : pos s) (h : fin x = true) : units Ieee.single (rng Ieee.single s) ≤ units Ieee.single (rng Ieee.single (scN s x)) ∧ units Ieee.single (rng Ieee.single x) ≤ units Ieee.single (rng Ieee.single (scN s x)) := by
  have hp := pos_fabs h
  have hg := gtr_pos hp.1 hs.1
  rw [sval_pos hp, sval_pos hs, rng_fabs h] at hg
  unfold scN
  by_cases hlt : (units Ieee.single (rng Ieee.single s) : Int) < units Ieee.single (rng Ieee.single x)
  · rw [hg, decide_eq_true hlt, if_pos rfl, rng_fabs h]; omega
  · rw [hg, decide_eq_false hlt, if_neg (by decide)]; omega
theorem zero0 : sval Ieee.single 0 = 0 ∧ rng Ieee.single 0 < Ieee.single.infRung := by decide
/-- .. as the reference makes it -/
theorem scS_neg {x : Nat} (hx : Can .f32 x) (h : fin x = true) (h1 : fcmp .lss .f32 x 0 = true) : fneg .f32 x = fabs .f32 x := by
  rw [lss_pos (fin_rng h) zero0.2, zero0.1, decide_eq_true_eq] at h1
  have hs : sgn Ieee.single x = true := by
    cases hs : sgn Ieee.single x
    · exfalso; unfold sval at h1; rw [hs] at h1; simp only [Bool.false_eq_true, if_false] at h1; omega
    · rfl
  have hsw : Ieee.single.signWeight = 2147483648 := by decide
  have hw : x < 2 ^ 32 := hx.lt
  have hlt : 2147483648 ≤ x := by
    unfold sgn at hs
    rw [hsw, beq_iff_eq] at hs
    omega
  have e : Op.negFloat .f32 x = x % 2147483648 := by
    show x ^^^ 2 ^ 31 = _
    have := xor_top (n := 31) (r := x - 2147483648) (by omega)
    rw [show (2 : Nat) ^ 31 = 2147483648 from rfl] at this ⊢
    rw [show 2147483648 + (x - 2147483648) = x by omega] at this
    rw [this]; omega
  unfold fneg
  rw [e, fabs_fin h, hsw]
  refine cb_num ?_
  have := fnan_abs .f32 x
  rw [show FloatKind.f32.format.signWeight = 2147483648 from hsw] at this
  rw [this, fin_nan h]
theorem scS_pos {s x : Nat} (hx : Can .f32 x) (hs : pos s) (h : fin x = true) (h1 : fcmp .lss .f32 x 0 = false) : fcmp .gtr .f32 x s = fcmp .gtr .f32 (fabs .f32 x) s ∧ (fcmp .gtr .f32 x s = true → x = fabs .f32 x) := by
  rw [lss_pos (fin_rng h) zero0.2, zero0.1, decide_eq_false_iff_not] at h1
  have hp := pos_fabs h
  rw [gtr_pos (fin_rng h) hs.1, gtr_pos hp.1 hs.1, sval_pos hp, sval_pos hs, rng_fabs h]
  cases hsg : sgn Ieee.single x
  · have hv : sval Ieee.single x = (units Ieee.single (rng Ieee.single x) : Int) := sval_pos ⟨fin_rng h, hsg⟩
    rw [hv]
    refine ⟨rfl, fun _ => ?_⟩
    rw [fabs_fin h]
    have hw := word_of .f32 hx.lt
    change Ieee.single.word (sgn Ieee.single x) (rng Ieee.single x) = x at hw
    rw [hsg] at hw
    exact hw.symm
  · have hv : sval Ieee.single x = -(units Ieee.single (rng Ieee.single x) : Int) := by unfold sval; rw [hsg]; rfl
    rw [hv] at h1 ⊢
    have h0 : units Ieee.single (rng Ieee.single x) = 0 := by omega
    rw [h0]
    have : ¬ ((units Ieee.single (rng Ieee.single s) : Int) < -((0 : Nat) : Int)) := by omega
    have h2 : ¬ ((units Ieee.single (rng Ieee.single s) : Int) < ((0 : Nat) : Int)) := by omega
    rw [decide_eq_false this, decide_eq_false h2]
    exact ⟨rfl, fun h => by cases h⟩
section
variable {P : Program} {E : Env} {o : Oper}
/-- the absolute value, narrowed -/
theorem yr_absdn {src dst : TypeId} {x : Operand} {b : Nat} (ho : o.op = .convert src dst x) (hs : P.underlying src = some (.float .f64)) (hd : P.underlying dst = some (.float .f32)) (hx : E.opd x = some (.float .f64 (fabs .f64 (fconv .f32 .f64 b)))) : YR P E o (.float .f32 (fabs .f32 b)) := by
  have h := yr_fconv (P := P) ho hs hd (by decide) hx (abs_down b).2
  rwa [(abs_down b).1] at h
/-- max of two numbers that are not below zero -/
theorem yr_maxS {x y : Operand} {t s : TypeId} {a b : Nat} (ho : o.op = .call ⟨.builtin .max, #[x, y], #[t, s]⟩) (hx : E.opd x = some (.float .f32 a)) (hy : E.opd y = some (.float .f32 (fabs .f32 b))) (ha : pos a) (hb : fin b = true) : YR P E o (.float .f32 (scN a b)) := yr_of fun ρ w hE => by
  obtain ⟨a', g1, g2⟩ := cn_float (hE.get (x := x) (by simp [ho, Op.operands, Call.operands]) hx)
  obtain ⟨b', k1, k2⟩ := cn_float (hE.get (x := y) (by simp [ho, Op.operands, Call.operands]) hy)
  have hp := pos_fabs hb
  have na : ∀ z, rng Ieee.single z < Ieee.single.infRung → fnan .f32 z = false := fun z hz => by
    rw [fnan_rng]; exact decide_eq_false (by show ¬ Ieee.single.infRung < rng Ieee.single z; omega)
  have ea : a' = a := by
    have : fnan .f32 a' = false := by rw [← fnan_cb, g2]; exact na _ ha.1
    rw [← g2, cb_num this]
  have eb : b' = fabs .f32 b := by
    have : fnan .f32 b' = false := by rw [← fnan_cb, k2]; exact na _ hp.1
    rw [← k2, cb_num this]
  subst ea
  subst eb
  have hg := gtr_pos hp.1 ha.1
  have hord : FloatKind.f32.format.order a' (fabs .f32 b) = some (compare (sval Ieee.single a') (sval Ieee.single (fabs .f32 b))) := order_number (k := .f32) ha.1 hp.1
  have hneg : (FloatKind.f32.decode a').neg = false := by
    obtain ⟨m, e, h1, _⟩ := read_number Ieee.single ha.1
    unfold FloatKind.decode
    rw [show FloatKind.f32.format.read a' = _ from h1]
    exact ha.2
  have hmax : (Builtin.max2 (.float .f32 a') (.float .f32 (fabs .f32 b))).run P w = .ok (.float .f32 (scN a' b)) w := by
    unfold Builtin.max2 scN
    rw [hg]
    simp only [hord]
    rcases Int.lt_trichotomy (sval Ieee.single a') (sval Ieee.single (fabs .f32 b)) with h | h | h
    · rw [Int.compare_eq_lt.2 h, decide_eq_true h]; rfl
    · rw [compare_eq.2 h, decide_eq_false (by omega)]
      simp [hneg]
    · rw [Int.compare_eq_gt.2 h, decide_eq_false (by omega)]; rfl
  refine ⟨.float .f32 (scN a' b), ?_, ?_⟩
  · simp [execOp, ho, g1, k1, resolve, invoke, builtin, Builtin.max_, hmax]
  · simp only [cn, cn1, cn0]
    rw [cb_num (na _ (pos_scN ha hb).1)]
end
end Go.Proofs.Ytnommdpgmoljcaa


namespace Go.Proofs.Ytnommdpgmoljcaa
open Go.RowKit

/-! ### bytes -/
def w8 (i : Int) : Int := IntKind.u8.wrap i
theorem w8_mod (i : Int) : w8 i = i % 256 := by
  unfold w8 IntKind.wrap
  simp [IntKind.signed, IntKind.bits]
theorem and255 (q : Int) : IntKind.i64.wrap (((q % 2 ^ IntKind.i64.bits).toNat &&& ((255 : Int) % 2 ^ IntKind.i64.bits).toNat : Nat) : Int) = q % 256 := by
  have e1 : ((255 : Int) % 2 ^ IntKind.i64.bits).toNat = 2 ^ 8 - 1 := by decide
  have e2 : (2 : Int) ^ IntKind.i64.bits = 18446744073709551616 := by decide
  rw [e1, Nat.and_two_pow_sub_one_eq_mod, e2]
  have e3 : (((q % 18446744073709551616).toNat % 2 ^ 8 : Nat) : Int) = q % 256 := by
    rw [show (2 : Nat) ^ 8 = 256 from rfl]; omega
  rw [e3]
  exact wrap_in (by omega)
theorem w8_255 (q : Int) : w8 (q % 256) = w8 q := by rw [w8_mod, w8_mod]; omega
theorem shr8 (x k : Nat) (b : Nat) (hb : b ≤ 64) (hk : k = x / 2 ^ b) : ((x : Nat) : Int).fdiv (2 ^ (min b IntKind.i64.bits)) = (k : Int) := by
  subst hk
  rw [show IntKind.i64.bits = 64 from rfl, Nat.min_eq_left hb, Int.fdiv_eq_ediv_of_nonneg _ (by exact_mod_cast Nat.zero_le _)]
  norm_cast
def four (x : Nat) : List Int := [w8 (x : Int), w8 ((x / 256 : Nat) : Int), w8 ((x / 65536 : Nat) : Int), w8 ((x / 16777216 : Nat) : Int)]
def fourK (x k : Nat) : List Int := (List.range k).map fun i => w8 ((x / 256 ^ i : Nat) : Int)
theorem fourK_length (x k : Nat) : (fourK x k).length = k := by simp [fourK]
theorem fourK_succ (x k : Nat) : fourK x k ++ [w8 ((x / 256 ^ k : Nat) : Int)] = fourK x (k + 1) := by unfold fourK; rw [List.range_succ]; simp
theorem fourK_all (x : Nat) : fourK x 4 = four x := by
  unfold fourK four
  simp [List.range_succ]
theorem four_next (x k : Nat) : x / 256 ^ (k + 1) = x / 256 ^ k / 2 ^ 8 := by rw [Nat.pow_succ, Nat.div_div_eq_div_mul]
theorem bl_snoc (bs : List Int) (x k : Nat) : bl (bs ++ fourK x k) ++ [.int .u8 (w8 ((x / 256 ^ k : Nat) : Int))] = bl (bs ++ fourK x (k + 1)) := by
  rw [← fourK_succ, ← List.append_assoc]; simp [bl]

/-! ### the text of a mesh -/
def num (vs : List V3) (k : Nat) : Nat := if k % 3 = 0 then (vs.getD (k / 3) z3).1 else if k % 3 = 1 then (vs.getD (k / 3) z3).2.1 else (vs.getD (k / 3) z3).2.2
def scU (vs : List V3) : Nat → Nat
  | 0 => 0
  | k + 1 => scN (scU vs k) (num vs k)
def allF (vs : List V3) : Nat → Bool
  | 0 => true
  | k + 1 => allF vs k && fin (num vs k)
def qI (s x : Nat) : Int := (floatToIntVal .f64 (qf s x) .i64).getD 0
def qz (s x : Nat) : Int := if fcmp .gtr .f32 s 0 then qI s x else 0
def bodyU (vs : List V3) (s : Nat) : Nat → List Int
  | 0 => []
  | k + 1 => bodyU vs s k ++ [w8 (qz s (num vs k)), w8 ((qz s (num vs k)).fdiv 256)]
def topL (f : V3) (st : Nat) (wi hi de : Int) (s : Nat) : List Int := [77, 83, 72, 49] ++ [w8 wi, w8 hi, w8 de] ++ four f.1 ++ four f.2.1 ++ four f.2.2 ++ four st ++ four s
def pkL (f : V3) (st : Nat) (wi hi de : Int) (vs : List V3) : List Int := topL f st wi hi de (scU vs (vs.length * 3)) ++ bodyU vs (scU vs (vs.length * 3)) (vs.length * 3)
section
variable {vs : List V3} {k j s : Nat}
theorem num_0 (i : Nat) : num vs (i * 3) = (vs.getD i z3).1 := by unfold num; rw [if_pos (by omega), show i * 3 / 3 = i by omega]
theorem num_1 (i : Nat) : num vs (i * 3 + 1) = (vs.getD i z3).2.1 := by unfold num; rw [if_neg (by omega), if_pos (by omega), show (i * 3 + 1) / 3 = i by omega]
theorem num_2 (i : Nat) : num vs (i * 3 + 2) = (vs.getD i z3).2.2 := by unfold num; rw [if_neg (by omega), if_neg (by omega), show (i * 3 + 2) / 3 = i by omega]
def part3 (v : V3) (j : Nat) : Nat := if j = 0 then v.1 else if j = 1 then v.2.1 else v.2.2
theorem num_part {i j : Nat} (hj : j < 3) : num vs (i * 3 + j) = part3 (vs.getD i z3) j := by
  unfold num part3
  rw [show (i * 3 + j) / 3 = i by omega, show (i * 3 + j) % 3 = j by omega]
theorem nums_get {v : V3} {j : Nat} (hj : j < 3) : [v.1, v.2.1, v.2.2].getD j 0 = part3 v j := by
  have : j = 0 ∨ j = 1 ∨ j = 2 := by omega
  rcases this with rfl | rfl | rfl <;> rfl
theorem allF_pos : allF vs k = true → pos (scU vs k) := by
  induction k with
  | zero => intro _; exact pos_0
  | succ k ih => intro h; rw [allF, Bool.and_eq_true] at h; exact pos_scN (ih h.1) h.2
theorem allF_le : allF vs k = true → ∀ j, j < k → fin (num vs j) = true ∧ units Ieee.single (rng Ieee.single (num vs j)) ≤ units Ieee.single (rng Ieee.single (scU vs k)) := by
  induction k with
  | zero => intro _ j hj; omega
  | succ k ih =>
    intro h j hj
    rw [allF, Bool.and_eq_true] at h
    obtain ⟨l1, l2⟩ := le_scN (allF_pos h.1) h.2
    rcases Nat.lt_or_eq_of_le (Nat.le_of_lt_succ hj) with hj | rfl
    · obtain ⟨g1, g2⟩ := ih h.1 j hj
      exact ⟨g1, Nat.le_trans g2 l1⟩
    · exact ⟨h.2, l2⟩
theorem allF_no : allF vs k = true → fin (num vs k) = false → k < j → allF vs j = false := by
  intro h1 h2 hj
  induction j with
  | zero => omega
  | succ j ih =>
    rw [allF]
    rcases Nat.lt_or_eq_of_le (Nat.le_of_lt_succ hj) with hj | rfl
    · rw [ih hj]; rfl
    · rw [h2, Bool.and_false]
theorem pos_gtr (h : pos s) : fcmp .gtr .f32 s 0 = decide (rng Ieee.single s ≠ 0) := by
  rw [gtr_pos h.1 zero0.2, zero0.1, sval_pos h]
  have := units_zero Ieee.single (r := rng Ieee.single s)
  by_cases h0 : rng Ieee.single s = 0
  · rw [decide_eq_false (by rw [this.2 h0]; decide), decide_eq_false (by simpa using h0)]
  · rw [decide_eq_true h0, decide_eq_true (by
      have h1 : units Ieee.single (rng Ieee.single s) ≠ 0 := fun h => h0 (this.1 h)
      omega)]
theorem pos_neq (h : pos s) : fcmp .neq .f32 s 0 = fcmp .gtr .f32 s 0 := by
  rw [gtr_pos h.1 zero0.2, zero0.1, sval_pos h]
  unfold fcmp
  simp only
  rw [order_number (k := .f32) h.1 zero0.2]
  have e : sval FloatKind.f32.format s = (units Ieee.single (rng Ieee.single s) : Int) := sval_pos h
  rw [e, show sval FloatKind.f32.format 0 = 0 from zero0.1]
  by_cases h0 : (0 : Int) < units Ieee.single (rng Ieee.single s)
  · rw [Int.compare_eq_gt.2 h0, decide_eq_true h0]; rfl
  · rw [compare_eq.2 (by omega), decide_eq_false h0]; rfl
theorem qI_is (h : allF vs k = true) (hg : fcmp .gtr .f32 (scU vs k) 0 = true) (hj : j < k) : floatToIntVal .f64 (qf (scU vs k) (num vs j)) .i64 = some (qI (scU vs k) (num vs j)) := by
  have hp := allF_pos h
  rw [pos_gtr hp, decide_eq_true_eq] at hg
  obtain ⟨g1, g2⟩ := allF_le h j hj
  obtain ⟨i, hi⟩ := qf_int (fin_rng g1) hp.1 hg g2
  unfold qI
  rw [hi]; rfl
theorem bodyU_length (s k : Nat) : (bodyU vs s k).length = k * 2 := by
  induction k with
  | zero => rfl
  | succ k ih => rw [bodyU, List.length_append, ih]; simp; omega
end
theorem topL_length (f : V3) (st : Nat) (wi hi de : Int) (s : Nat) : (topL f st wi hi de s).length = 27 := rfl
def pkOk (f : V3) (st : Nat) (wi hi de : Int) (vs : List V3) : Bool := meshOk f st wi hi de vs.length && allF vs (vs.length * 3)
def pkT (f : V3) (st : Nat) (wi hi de : Int) (vs : List V3) : ByteArray := if pkOk f st wi hi de vs then stb (pkL f st wi hi de vs) else ⟨#[]⟩
section
variable {f : V3} {st : Nat} {wi hi de : Int} {vs : List V3}
theorem pk_no1 (h1 : meshOk f st wi hi de vs.length = false) : pkOk f st wi hi de vs = false := by unfold pkOk; rw [h1]; rfl
theorem pkT_yes (h : pkOk f st wi hi de vs = true) : pkT f st wi hi de vs = stb (pkL f st wi hi de vs) := by unfold pkT; rw [h]; rfl
theorem pkT_no (h : pkOk f st wi hi de vs = false) : pkT f st wi hi de vs = ⟨#[]⟩ := by unfold pkT; rw [h]; rfl
end
/-! ### words for the walks -/
section
variable {vs : List V3} {k i j p s : Nat}
theorem num_get (hj : j < 3) : num vs (i * 3 + j) = [(vs.getD i z3).1, (vs.getD i z3).2.1, (vs.getD i z3).2.2].getD j 0 := by rw [num_part hj, nums_get hj]
theorem can_part {v : V3} (h : Can3 v) : Can .f32 (part3 v j) := by unfold part3; split; exact h.1; split; exact h.2.1; exact h.2.2
theorem scU_n1 (hk : num vs k = p) (hc : Can .f32 p) (hf : fin p = true) (h1 : fcmp .lss .f32 p 0 = true) (h2 : fcmp .gtr .f32 (fneg .f32 p) (scU vs k) = true) : fneg .f32 p = scU vs (k + 1) := by
  rw [scS_neg hc hf h1] at h2 ⊢
  rw [scU, hk, scN, if_pos h2]
theorem scU_n0 (hk : num vs k = p) (hc : Can .f32 p) (hf : fin p = true) (h1 : fcmp .lss .f32 p 0 = true) (h2 : fcmp .gtr .f32 (fneg .f32 p) (scU vs k) = false) : scU vs k = scU vs (k + 1) := by
  rw [scS_neg hc hf h1] at h2
  rw [scU, hk, scN, if_neg (by rw [h2]; decide)]
theorem scU_p1 (ha : allF vs k = true) (hk : num vs k = p) (hc : Can .f32 p) (hf : fin p = true) (h1 : fcmp .lss .f32 p 0 = false) (h2 : fcmp .gtr .f32 p (scU vs k) = true) : p = scU vs (k + 1) := by
  obtain ⟨g1, g2⟩ := scS_pos hc (allF_pos ha) hf h1
  have g3 := g2 h2
  rw [scU, hk, scN, if_pos (g1 ▸ h2)]; exact g3
theorem scU_p0 (ha : allF vs k = true) (hk : num vs k = p) (hc : Can .f32 p) (hf : fin p = true) (h1 : fcmp .lss .f32 p 0 = false) (h2 : fcmp .gtr .f32 p (scU vs k) = false) : scU vs k = scU vs (k + 1) := by
  obtain ⟨g1, _⟩ := scS_pos hc (allF_pos ha) hf h1
  rw [scU, hk, scN, if_neg (by rw [← g1, h2]; decide)]
theorem allF_0 : allF vs 0 = true := rfl
theorem scU_0 : scU vs 0 = 0 := rfl
theorem body_0 : bodyU vs s 0 = [] := rfl
theorem scU_m (hk : num vs k = p) : scN (scU vs k) p = scU vs (k + 1) := by rw [scU, hk]
theorem allF_s (ha : allF vs k = true) (hk : num vs k = p) (hf : fin p = true) : allF vs (k + 1) = true := by rw [allF, ha, hk, hf]; rfl
theorem qI_isX {N X : Nat} (h : allF vs N = true) (hg : fcmp .gtr .f32 (scU vs N) 0 = true) (hk : num vs k = X) (hj : k < N) : floatToIntVal .f64 (qf (scU vs N) X) .i64 = some (qI (scU vs N) X) := by rw [← hk]; exact qI_is h hg hj
theorem qz_y {x : Nat} (h : fcmp .gtr .f32 s 0 = true) : qz s x = qI s x := by unfold qz; rw [if_pos h]
theorem qz_n {x : Nat} (h : fcmp .gtr .f32 s 0 = false) : qz s x = 0 := by unfold qz; rw [if_neg (by rw [h]; decide)]
theorem body_s {bs : List Int} {x : Nat} {q q2 : Int} (hk : num vs k = x) (hq : qz s x = q) (h2 : q2 = q.fdiv 256) : bl (bs ++ bodyU vs s k) ++ [.int .u8 (w8 q), .int .u8 (w8 q2)] = bl (bs ++ bodyU vs s (k + 1)) := by
  subst h2
  rw [bodyU, hk, hq, ← List.append_assoc]; simp [bl]
end
def topK (f : V3) (st s k : Nat) : List Int := ([f.1, f.2.1, f.2.2, st, s].take k).flatMap four
def hdr (wi hi de : Int) : List Int := [77, 83, 72, 49] ++ [w8 wi, w8 hi, w8 de]
theorem topK_succ {f : V3} {st s k : Nat} (h : k < 5) : topK f st s (k + 1) = topK f st s k ++ four ([f.1, f.2.1, f.2.2, st, s].getD k 0) := by
  unfold topK
  have : k = 0 ∨ k = 1 ∨ k = 2 ∨ k = 3 ∨ k = 4 := by omega
  rcases this with rfl | rfl | rfl | rfl | rfl <;> simp
theorem topK_all {f : V3} {st s : Nat} {wi hi de : Int} : hdr wi hi de ++ topK f st s 5 = topL f st wi hi de s := by simp [hdr, topK, topL]
theorem topK_0 {f : V3} {st s : Nat} {wi hi de : Int} : hdr wi hi de ++ topK f st s 0 = [77, 83, 72, 49] ++ [w8 wi, w8 hi, w8 de] := rfl
theorem topK_length {f : V3} {st s k : Nat} (h : k ≤ 5) : (topK f st s k).length = k * 4 := by
  have : k = 0 ∨ k = 1 ∨ k = 2 ∨ k = 3 ∨ k = 4 ∨ k = 5 := by omega
  rcases this with rfl | rfl | rfl | rfl | rfl | rfl <;> rfl
theorem Pick.p3 {O1 O2 O F : List Ent} {e1 e2 e3 : Ent} (h1 : Rem O [e1] O1) (h2 : Rem O1 [e2] O2) (h3 : Rem O2 [e3] F) : Pick O [e1, e2, e3] F := Pick.take h1 (Pick.take h2 (Pick.take h3 .nil))
theorem can_scU {vs : List V3} : ∀ k, Can .f32 (scU vs k)
  | 0 => (show Can .f32 0 from ⟨by decide, by decide⟩)
  | k + 1 => by
    have ih := can_scU (vs := vs) k
    rw [scU, scN]; split
    · exact can_fabs _ _
    · exact ih
theorem can_top {f : V3} {st k N : Nat} {vs : List V3} (hf : Can3 f) (hs : Can .f32 st) (h : k < 5) : Can .f32 ([f.1, f.2.1, f.2.2, st, scU vs N].getD k 0) := by
  have : k = 0 ∨ k = 1 ∨ k = 2 ∨ k = 3 ∨ k = 4 := by omega
  rcases this with rfl | rfl | rfl | rfl | rfl
  · exact hf.1
  · exact hf.2.1
  · exact hf.2.2
  · exact hs
  · exact can_scU N
theorem topK_le {f : V3} {st s k : Nat} {wi hi de : Int} (h : k ≤ 5) : (hdr wi hi de ++ topK f st s k).length ≤ 100000 := by
  rw [List.length_append, topK_length h]; simp [hdr]; omega
theorem bd_len {f : V3} {st s k : Nat} {wi hi de : Int} {vs : List V3} : (topL f st wi hi de s ++ bodyU vs s k).length = 27 + k * 2 := by rw [List.length_append, topL_length, bodyU_length]
theorem part_top {f : V3} {st s k : Nat} (h : k < 3) : part3 f k = [f.1, f.2.1, f.2.2, st, s].getD k 0 := by
  have : k = 0 ∨ k = 1 ∨ k = 2 := by omega
  rcases this with rfl | rfl | rfl <;> rfl
theorem top3 {f : V3} {st s : Nat} {wi hi de : Int} : hdr wi hi de ++ topK f st s 3 ++ four st ++ four s = topL f st wi hi de s := by simp [hdr, topK, topL]
theorem pk_val {f : V3} {st : Nat} {wi hi de : Int} {vs : List V3} (h : meshOk f st wi hi de vs.length = true) : (if allF vs (vs.length * 3) then stb (pkL f st wi hi de vs) else ⟨#[]⟩) = pkT f st wi hi de vs ∧ allF vs (vs.length * 3) = pkOk f st wi hi de vs := by
  have e : allF vs (vs.length * 3) = pkOk f st wi hi de vs := by unfold pkOk; rw [h]; rfl
  refine ⟨?_, e⟩
  unfold pkT
  rw [← e]
end Go.Proofs.Ytnommdpgmoljcaa


namespace Go.Proofs.Ytnommdpgmoljcaa
open Go.RowKit

section
variable {P : Program} {n : Nat} {w0 : World} {O : List Ent} {E : Env} {o : Oper}
theorem extN {args : Array Operand} {ts : Array TypeId} {f : FuncId} {us : List Value} {X : Type} {u : X → Value} {e : Array Value → Sem Value} (ho : o.op = .call ⟨.value (.func f), args, ts⟩) (hk : ExtF P f e) (hx : Opds E args.toList us)
    (h : ∀ (vs : Array Value) (w : World), vs.toList.map cn = us → ∃ x v w', (e vs).run P w = .ok v w' ∧ cn v = u x ∧ Below w.heap.size w w') : YN P w0 O E o u (fun _ => []) := by
  intro ρ w hE hw
  obtain ⟨fn, h1, h2, h3, h4, h5⟩ := hk
  have h2' : ¬ fn.name = "runtime.NumGoroutine" := by simpa using h2
  obtain ⟨x, v, w', g1, g2, g3⟩ := h (args.map ρ ++ #[]) w (args_map' ho hx hE)
  have hc : cn (ρ (.func f)) = .func (.func f) #[] #[] := hE.get (x := .func f) (by simp [ho, Op.operands, Call.operands]) rfl
  have hc' := cn_func hc
  have hr : (execOp ρ o).run P w = .ok (.value v) w' := by
    simp only [Array.append_empty] at g1
    simp [execOp, ho, resolve, hc', Deferred.ofValue, invoke, callFunc, program, Sem.run, h1, h2', h3, h4, h5, g1]
  rw [hr]
  exact ⟨x, g2, g3, (fun _ hf => by cases hf), List.Pairwise.nil⟩
theorem ext_bitsN {vs : Array Value} {w : World} {x : Nat} (h : vs.toList.map cn = [.float .f64 x]) : ∃ (b : {b : Nat // cb .f64 b = x}) (v : Value) (w' : World), (Extern.MathFloatBits.float64bits vs).run P w = .ok v w' ∧ cn v = .int .u64 (b.1 : Int) ∧ Below w.heap.size w w' := by
  obtain ⟨b, rfl, hb⟩ := one_arg h
  exact ⟨⟨b, hb⟩, .int .u64 b, w, rfl, rfl, Below.refl _ _⟩
theorem int_arg {vs : Array Value} {k : IntKind} {x : Int} (h : vs.toList.map cn = [.int k x]) : vs = #[.int k x] := by
  have hl : vs.toList.length = 1 := by have := congrArg List.length h; simpa using this
  obtain ⟨l⟩ := vs
  match l, hl with
  | [v], _ =>
    simp only [List.map_cons, List.map_nil, List.cons.injEq, and_true] at h
    rw [cn_int h]
theorem ext_from64 (vs : Array Value) (w : World) {x : Nat} (h : vs.toList.map cn = [.int .u64 (x : Int)]) : ∃ v w', (Extern.MathFloatBits.float64frombits vs).run P w = .ok v w' ∧ cn v = .float .f64 (cb .f64 x) ∧ Below w.heap.size w w' := by
  rw [int_arg h]
  exact ⟨.float .f64 x, w, rfl, rfl, Below.refl _ _⟩
theorem ext_from32 (vs : Array Value) (w : World) {x : Nat} (h : vs.toList.map cn = [.int .u32 (x : Int)]) : ∃ v w', (Extern.MathFloatBits.float32frombits vs).run P w = .ok v w' ∧ cn v = .float .f32 (cb .f32 x) ∧ Below w.heap.size w w' := by
  rw [int_arg h]
  exact ⟨.float .f32 x, w, rfl, rfl, Below.refl _ _⟩
theorem intBits_63 (x : Nat) : Op.intBits .andNot .u64 (x : Int) 9223372036854775808 = (pure (.int .u64 ((x % 9223372036854775808 : Nat) : Int)) : Sem Value) := by
  have h1 : BitVec.ofInt IntKind.u64.bits (x : Int) = BitVec.ofNat 64 x := by
    show BitVec.ofInt 64 (x : Int) = BitVec.ofNat 64 x
    exact BitVec.ofInt_natCast 64 x
  have h2 : ~~~ BitVec.ofInt IntKind.u64.bits 9223372036854775808 = BitVec.ofNat 64 (2 ^ 63 - 1) := by
    show ~~~ BitVec.ofInt 64 9223372036854775808 = BitVec.ofNat 64 (2 ^ 63 - 1)
    decide
  unfold Op.intBits
  simp only [h1, h2]
  congr 2
  have h3 : (BitVec.ofNat 64 x &&& BitVec.ofNat 64 (2 ^ 63 - 1)).toNat = x % 2 ^ 63 := by
    rw [BitVec.toNat_and, BitVec.toNat_ofNat, BitVec.toNat_ofNat]
    have : (2 ^ 63 - 1) % 2 ^ 64 = 2 ^ 63 - 1 := by decide
    rw [this, Nat.and_two_pow_sub_one_eq_mod]
    omega
  change IntKind.u64.wrap ((BitVec.ofNat 64 x &&& BitVec.ofNat 64 (2 ^ 63 - 1)).toNat : Int) = _
  rw [h3]
  have : x % 2 ^ 63 < 2 ^ 63 := Nat.mod_lt _ (by decide)
  have h4 : IntKind.u64.wrap ((x % 2 ^ 63 : Nat) : Int) = ((x % 2 ^ 63 : Nat) : Int) := IntWalk.u64_in _ (by omega)
  rw [h4]
theorem yr_andNot63 {t ty : TypeId} {x y : Operand} {a : Nat} (ho : o.op = .binOp .andNot t x y ty) (hx : E.opd x = some (.int .u64 (a : Int))) (hy : E.opd y = some (.int .u64 9223372036854775808)) : YR P E o (.int .u64 ((a % 9223372036854775808 : Nat) : Int)) := yr_of fun ρ w hE => by
  have h1 := cn_int (hE.get (x := x) (by simp [ho, Op.operands]) hx)
  have h2 := cn_int (hE.get (x := y) (by simp [ho, Op.operands]) hy)
  exact ⟨.int .u64 ((a % 9223372036854775808 : Nat) : Int), by simp [execOp, ho, h1, h2, eqGuard, binOp, intBits_63], rfl⟩
end

end Go.Proofs.Ytnommdpgmoljcaa

