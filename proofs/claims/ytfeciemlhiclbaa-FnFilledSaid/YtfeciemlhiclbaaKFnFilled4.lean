/- Own texts of this claim, merged: WMesh, WMeshB, Cell, WVal. -/
import Derived.KernelRfl
import Derived.Test.YtfeciemlhiclbaaKFnFilled3
namespace Go.Proofs.Ytfeciemlhiclbaa
open Go.RowKit
set_option linter.unusedVariables false
set_option linter.unusedSimpArgs false
set_option maxRecDepth 20000

theorem known28_Mesh : Known Try.prog 28 := Known.mk' Try.func28 (by kernel_rfl)
theorem sz32_Mesh : (Try.prog.info? 32).map (·.size) = some 3 := by kernel_rfl
theorem known27_Mesh : Known Try.prog 27 := Known.mk' Try.func27 (by kernel_rfl)
theorem sz25_Mesh : (Try.prog.info? 25).map (·.size) = some 1 := by kernel_rfl
theorem fb25_Mesh : flatB Try.prog 25 = true := by kernel_rfl
theorem known16_Mesh : Known Try.prog 16 := Known.mk' Try.func16 (by kernel_rfl)
theorem sz2_Mesh : (Try.prog.info? 2).map (·.size) = some 1 := by kernel_rfl
theorem fb2_Mesh : flatB Try.prog 2 = true := by kernel_rfl
theorem known21_Mesh : Known Try.prog 21 := Known.mk' Try.func21 (by kernel_rfl)
theorem sz24_Mesh : (Try.prog.info? 24).map (·.size) = some 1 := by kernel_rfl
theorem fb24_Mesh : flatB Try.prog 24 = true := by kernel_rfl
theorem zero35_Mesh : (Try.prog.info? 35).bind (·.zero) = some (Value.agg #[Value.float .f32 0, Value.float .f32 0, Value.float .f32 0, Value.float .f32 0, Value.int .i64 0, Value.int .i64 0, Value.int .i64 0, Value.slice none 0 0]) := by kernel_rfl
theorem sz35_Mesh : (Try.prog.info? 35).map (·.size) = some 8 := by kernel_rfl
theorem known8_Mesh : Known Try.prog 8 := Known.mk' Try.func8 (by kernel_rfl)
theorem lay35_Mesh : Lay Try.prog 35 [Value.float .f32 0, Value.float .f32 0, Value.float .f32 0, Value.float .f32 0, Value.int .i64 0, Value.int .i64 0, Value.int .i64 0, Value.slice none 0 0] [(0, 3), (3, 1), (4, 1), (5, 1), (6, 1), (7, 1)] := Lay.mk' (by kernel_rfl) (by kernel_rfl)
theorem zero32_Mesh : (Try.prog.info? 32).bind (·.zero) = some (Value.agg #[Value.float .f32 0, Value.float .f32 0, Value.float .f32 0]) := by kernel_rfl
theorem lay32_Mesh : Lay Try.prog 32 [Value.float .f32 0, Value.float .f32 0, Value.float .f32 0] [(0, 1), (1, 1), (2, 1)] := Lay.mk' (by kernel_rfl) (by kernel_rfl)
theorem known42_Mesh : Known Try.prog 42 := Known.mk' Try.func42 (by kernel_rfl)
attribute [local irreducible] fop fcmp fconv sqrt32 fneg segF fieldS fieldI List.getD

theorem c_isMS {w : World} {n : Int} : Pure Try.prog 21 [.int .i64 n] w (.bool (decide (1 ≤ n ∧ n ≤ 216))) := by
  refine Pure.enter Try.func21 rfl Try.ntmps21 (Nat.le_of_ble_eq_true rfl) ?_
  refine V.seq ?_
  refine V.region ?_
  refine VL.r (.inl rfl) rfl (by decide) (yr_assign (u := .bool false) rfl rfl) ?_
  refine VL.nil ?_
  refine VE.then_wp ?_
  refine V.seq ?_
  refine V.region ?_
  refine VL.r (.inl rfl) rfl (by decide) (yr_move rfl rfl) ?_
  refine VL.q (.inl rfl) rfl (by decide) (yq_callf rfl known28_Mesh (.cons rfl (.cons rfl (.cons rfl .nil))) (fun w hw => c_within)) ?_
  refine VL.r (.inl rfl) rfl (by decide) (yr_assign rfl rfl) ?_
  refine VL.nil ?_
  refine VE.then_wp ?_
  refine V.ret ?_
  refine ret1 rfl rfl (fun w1 hw => ?_)
  exact ⟨rfl, hw.below⟩

theorem c_implMesh {w : World} {f1 f2 f3 st : Nat} {wi hi de : Int} {a : Option Addr} {m c : Nat} : Pure Try.prog 8 [.agg #[.float .f32 f1, .float .f32 f2, .float .f32 f3, .float .f32 st, .int .i64 wi, .int .i64 hi, .int .i64 de, .slice a m c]] w (.bool (meshOk (f1, f2, f3) st wi hi de m)) := by
  refine Pure.enter Try.func8 rfl Try.ntmps8 (Nat.le_of_ble_eq_true rfl) ?_
  refine V.seq ?_
  refine V.region ?_
  refine VL.new1 (.inl rfl) rfl (by decide) (yn_box rfl rfl (.inr ⟨rfl, rfl⟩)) ?_
  intro b1
  refine VL.r (.inl rfl) rfl (by decide) (yr_assign (u := .bool false) rfl rfl) ?_
  refine VL.nil ?_
  refine VE.then_wp ?_
  refine V.seq ?_
  refine V.region ?_
  refine VL.r (.inl rfl) rfl (by decide) (yr_fieldAddr rfl Try.underlying35 rfl rfl sz32_Mesh (by decide) rfl) ?_
  refine VL.q (.inl rfl) rfl (by decide) (yq_loadS rfl Try.underlying32 sz32_Mesh rfl (by first | exact Sees.root (by assumption) | exact Sees.own (by repeat (first | exact List.mem_cons_self | exact List.mem_append_left _ (by assumption) | apply List.mem_cons_of_mem | apply List.mem_append_right)) | exact Sees.root (hR _ (by omega)) | exact Sees.own (RowsIn.mem (by repeat (first | exact RowsIn.here | exact RowsIn.last | apply RowsIn.there | apply RowsIn.thereS)) _ (by omega)) | exact Sees.own (WRowsIn.mem (by repeat (first | exact WRowsIn.here | exact WRowsIn.last | apply WRowsIn.there | apply WRowsIn.thereS)) _ (by omega))) rfl rfl rfl) ?_
  refine VL.q (.inl rfl) rfl (by decide) (yq_callf rfl known27_Mesh (.cons rfl .nil) (fun w hw => c_fin3)) ?_
  refine VL.r (.inl rfl) rfl (by decide) (yr_move rfl rfl) ?_
  refine VX.split 6 _ rfl (fun h1 => ?_) (fun h1 => ?_)
  · skip
    refine VL.r (.inr ⟨_, _, _, rfl, rfl, rfl⟩) rfl (by decide) (yr_fieldAddr rfl Try.underlying35 rfl rfl sz25_Mesh (by decide) rfl) ?_
    refine VL.q (.inr ⟨_, _, _, rfl, rfl, rfl⟩) rfl (by decide) (yq_load rfl fb25_Mesh rfl (by first | exact Sees.root (by assumption) | exact Sees.own (by repeat (first | exact List.mem_cons_self | exact List.mem_append_left _ (by assumption) | apply List.mem_cons_of_mem | apply List.mem_append_right)) | exact Sees.root (hR _ (by omega)) | exact Sees.own (RowsIn.mem (by repeat (first | exact RowsIn.here | exact RowsIn.last | apply RowsIn.there | apply RowsIn.thereS)) _ (by omega)) | exact Sees.own (WRowsIn.mem (by repeat (first | exact WRowsIn.here | exact WRowsIn.last | apply WRowsIn.there | apply WRowsIn.thereS)) _ (by omega))) rfl) ?_
    refine VL.q (.inr ⟨_, _, _, rfl, rfl, rfl⟩) rfl (by decide) (yq_callf rfl known16_Mesh (.cons rfl .nil) (fun w hw => c_isLength _)) ?_
    refine VL.r (.inl rfl) rfl (by decide) (yr_pick_t rfl rfl rfl) ?_
    refine VL.r (.inl rfl) rfl (by decide) (yr_move rfl rfl) ?_
    refine VX.split 11 _ rfl (fun h2 => ?_) (fun h2 => ?_)
    · skip
      refine VL.r (.inr ⟨_, _, _, rfl, rfl, rfl⟩) rfl (by decide) (yr_fieldAddr rfl Try.underlying35 rfl rfl sz2_Mesh (by decide) rfl) ?_
      refine VL.q (.inr ⟨_, _, _, rfl, rfl, rfl⟩) rfl (by decide) (yq_load rfl fb2_Mesh rfl (by first | exact Sees.root (by assumption) | exact Sees.own (by repeat (first | exact List.mem_cons_self | exact List.mem_append_left _ (by assumption) | apply List.mem_cons_of_mem | apply List.mem_append_right)) | exact Sees.root (hR _ (by omega)) | exact Sees.own (RowsIn.mem (by repeat (first | exact RowsIn.here | exact RowsIn.last | apply RowsIn.there | apply RowsIn.thereS)) _ (by omega)) | exact Sees.own (WRowsIn.mem (by repeat (first | exact WRowsIn.here | exact WRowsIn.last | apply WRowsIn.there | apply WRowsIn.thereS)) _ (by omega))) rfl) ?_
      refine VL.q (.inr ⟨_, _, _, rfl, rfl, rfl⟩) rfl (by decide) (yq_callf rfl known21_Mesh (.cons rfl .nil) (fun w hw => c_isMS)) ?_
      refine VL.r (.inl rfl) rfl (by decide) (yr_pick_t rfl rfl rfl) ?_
      refine VL.r (.inl rfl) rfl (by decide) (yr_move rfl rfl) ?_
      refine VX.split 16 _ rfl (fun h3 => ?_) (fun h3 => ?_)
      · skip
        refine VL.r (.inr ⟨_, _, _, rfl, rfl, rfl⟩) rfl (by decide) (yr_fieldAddr rfl Try.underlying35 rfl rfl sz2_Mesh (by decide) rfl) ?_
        refine VL.q (.inr ⟨_, _, _, rfl, rfl, rfl⟩) rfl (by decide) (yq_load rfl fb2_Mesh rfl (by first | exact Sees.root (by assumption) | exact Sees.own (by repeat (first | exact List.mem_cons_self | exact List.mem_append_left _ (by assumption) | apply List.mem_cons_of_mem | apply List.mem_append_right)) | exact Sees.root (hR _ (by omega)) | exact Sees.own (RowsIn.mem (by repeat (first | exact RowsIn.here | exact RowsIn.last | apply RowsIn.there | apply RowsIn.thereS)) _ (by omega)) | exact Sees.own (WRowsIn.mem (by repeat (first | exact WRowsIn.here | exact WRowsIn.last | apply WRowsIn.there | apply WRowsIn.thereS)) _ (by omega))) rfl) ?_
        refine VL.q (.inr ⟨_, _, _, rfl, rfl, rfl⟩) rfl (by decide) (yq_callf rfl known21_Mesh (.cons rfl .nil) (fun w hw => c_isMS)) ?_
        refine VL.r (.inl rfl) rfl (by decide) (yr_pick_t rfl rfl rfl) ?_
        refine VL.r (.inl rfl) rfl (by decide) (yr_move rfl rfl) ?_
        refine VX.split 21 _ rfl (fun h4 => ?_) (fun h4 => ?_)
        · skip
          refine VL.r (.inr ⟨_, _, _, rfl, rfl, rfl⟩) rfl (by decide) (yr_fieldAddr rfl Try.underlying35 rfl rfl sz2_Mesh (by decide) rfl) ?_
          refine VL.q (.inr ⟨_, _, _, rfl, rfl, rfl⟩) rfl (by decide) (yq_load rfl fb2_Mesh rfl (by first | exact Sees.root (by assumption) | exact Sees.own (by repeat (first | exact List.mem_cons_self | exact List.mem_append_left _ (by assumption) | apply List.mem_cons_of_mem | apply List.mem_append_right)) | exact Sees.root (hR _ (by omega)) | exact Sees.own (RowsIn.mem (by repeat (first | exact RowsIn.here | exact RowsIn.last | apply RowsIn.there | apply RowsIn.thereS)) _ (by omega)) | exact Sees.own (WRowsIn.mem (by repeat (first | exact WRowsIn.here | exact WRowsIn.last | apply WRowsIn.there | apply WRowsIn.thereS)) _ (by omega))) rfl) ?_
          refine VL.q (.inr ⟨_, _, _, rfl, rfl, rfl⟩) rfl (by decide) (yq_callf rfl known21_Mesh (.cons rfl .nil) (fun w hw => c_isMS)) ?_
          refine VL.r (.inl rfl) rfl (by decide) (yr_pick_t rfl rfl rfl) ?_
          refine VL.r (.inl rfl) rfl (by decide) (yr_move rfl rfl) ?_
          refine VX.split 26 _ rfl (fun h5 => ?_) (fun h5 => ?_)
          · skip
            have hb := mesh_mul (wi := wi) (hi := hi) (de := de) (by assumption) (by assumption) (by assumption)
            refine VL.r (.inr ⟨_, _, _, rfl, rfl, rfl⟩) rfl (by decide) (yr_fieldAddr rfl Try.underlying35 rfl rfl sz2_Mesh (by decide) rfl) ?_
            refine VL.q (.inr ⟨_, _, _, rfl, rfl, rfl⟩) rfl (by decide) (yq_load rfl fb2_Mesh rfl (by first | exact Sees.root (by assumption) | exact Sees.own (by repeat (first | exact List.mem_cons_self | exact List.mem_append_left _ (by assumption) | apply List.mem_cons_of_mem | apply List.mem_append_right)) | exact Sees.root (hR _ (by omega)) | exact Sees.own (RowsIn.mem (by repeat (first | exact RowsIn.here | exact RowsIn.last | apply RowsIn.there | apply RowsIn.thereS)) _ (by omega)) | exact Sees.own (WRowsIn.mem (by repeat (first | exact WRowsIn.here | exact WRowsIn.last | apply WRowsIn.there | apply WRowsIn.thereS)) _ (by omega))) rfl) ?_
            refine VL.r (.inr ⟨_, _, _, rfl, rfl, rfl⟩) rfl (by decide) (yr_fieldAddr rfl Try.underlying35 rfl rfl sz2_Mesh (by decide) rfl) ?_
            refine VL.q (.inr ⟨_, _, _, rfl, rfl, rfl⟩) rfl (by decide) (yq_load rfl fb2_Mesh rfl (by first | exact Sees.root (by assumption) | exact Sees.own (by repeat (first | exact List.mem_cons_self | exact List.mem_append_left _ (by assumption) | apply List.mem_cons_of_mem | apply List.mem_append_right)) | exact Sees.root (hR _ (by omega)) | exact Sees.own (RowsIn.mem (by repeat (first | exact RowsIn.here | exact RowsIn.last | apply RowsIn.there | apply RowsIn.thereS)) _ (by omega)) | exact Sees.own (WRowsIn.mem (by repeat (first | exact WRowsIn.here | exact WRowsIn.last | apply WRowsIn.there | apply WRowsIn.thereS)) _ (by omega))) rfl) ?_
            refine VL.r (.inr ⟨_, _, _, rfl, rfl, rfl⟩) rfl (by decide) (yr_int rfl rfl rfl (.inr (.inr ⟨rfl, wrap_in (by omega)⟩))) ?_
            refine VL.r (.inr ⟨_, _, _, rfl, rfl, rfl⟩) rfl (by decide) (yr_fieldAddr rfl Try.underlying35 rfl rfl sz2_Mesh (by decide) rfl) ?_
            refine VL.q (.inr ⟨_, _, _, rfl, rfl, rfl⟩) rfl (by decide) (yq_load rfl fb2_Mesh rfl (by first | exact Sees.root (by assumption) | exact Sees.own (by repeat (first | exact List.mem_cons_self | exact List.mem_append_left _ (by assumption) | apply List.mem_cons_of_mem | apply List.mem_append_right)) | exact Sees.root (hR _ (by omega)) | exact Sees.own (RowsIn.mem (by repeat (first | exact RowsIn.here | exact RowsIn.last | apply RowsIn.there | apply RowsIn.thereS)) _ (by omega)) | exact Sees.own (WRowsIn.mem (by repeat (first | exact WRowsIn.here | exact WRowsIn.last | apply WRowsIn.there | apply WRowsIn.thereS)) _ (by omega))) rfl) ?_
            refine VL.r (.inr ⟨_, _, _, rfl, rfl, rfl⟩) rfl (by decide) (yr_int rfl rfl rfl (.inr (.inr ⟨rfl, wrap_in (by omega)⟩))) ?_
            refine VL.r (.inr ⟨_, _, _, rfl, rfl, rfl⟩) rfl (by decide) (yr_icmp rfl (.inr (.inr (.inr (.inl rfl)))) rfl rfl) ?_
            refine VL.r (.inl rfl) rfl (by decide) (yr_pick_t rfl rfl rfl) ?_
            refine VL.r (.inl rfl) rfl (by decide) (yr_move rfl rfl) ?_
            refine VX.split 37 _ rfl (fun h6 => ?_) (fun h6 => ?_)
            · skip
              replace h6 := ic_leq h6
              refine VL.r (.inr ⟨_, _, _, rfl, rfl, rfl⟩) rfl (by decide) (yr_fieldAddr rfl Try.underlying35 rfl rfl sz24_Mesh (by decide) rfl) ?_
              refine VL.q (.inr ⟨_, _, _, rfl, rfl, rfl⟩) rfl (by decide) (yq_load rfl fb24_Mesh rfl (by first | exact Sees.root (by assumption) | exact Sees.own (by repeat (first | exact List.mem_cons_self | exact List.mem_append_left _ (by assumption) | apply List.mem_cons_of_mem | apply List.mem_append_right)) | exact Sees.root (hR _ (by omega)) | exact Sees.own (RowsIn.mem (by repeat (first | exact RowsIn.here | exact RowsIn.last | apply RowsIn.there | apply RowsIn.thereS)) _ (by omega)) | exact Sees.own (WRowsIn.mem (by repeat (first | exact WRowsIn.here | exact WRowsIn.last | apply WRowsIn.there | apply WRowsIn.thereS)) _ (by omega))) rfl) ?_
              refine VL.r (.inr ⟨_, _, _, rfl, rfl, rfl⟩) rfl (by decide) (yr_len rfl Try.underlying24 rfl) ?_
              refine VL.r (.inr ⟨_, _, _, rfl, rfl, rfl⟩) rfl (by decide) (yr_fieldAddr rfl Try.underlying35 rfl rfl sz2_Mesh (by decide) rfl) ?_
              refine VL.q (.inr ⟨_, _, _, rfl, rfl, rfl⟩) rfl (by decide) (yq_load rfl fb2_Mesh rfl (by first | exact Sees.root (by assumption) | exact Sees.own (by repeat (first | exact List.mem_cons_self | exact List.mem_append_left _ (by assumption) | apply List.mem_cons_of_mem | apply List.mem_append_right)) | exact Sees.root (hR _ (by omega)) | exact Sees.own (RowsIn.mem (by repeat (first | exact RowsIn.here | exact RowsIn.last | apply RowsIn.there | apply RowsIn.thereS)) _ (by omega)) | exact Sees.own (WRowsIn.mem (by repeat (first | exact WRowsIn.here | exact WRowsIn.last | apply WRowsIn.there | apply WRowsIn.thereS)) _ (by omega))) rfl) ?_
              refine VL.r (.inr ⟨_, _, _, rfl, rfl, rfl⟩) rfl (by decide) (yr_fieldAddr rfl Try.underlying35 rfl rfl sz2_Mesh (by decide) rfl) ?_
              refine VL.q (.inr ⟨_, _, _, rfl, rfl, rfl⟩) rfl (by decide) (yq_load rfl fb2_Mesh rfl (by first | exact Sees.root (by assumption) | exact Sees.own (by repeat (first | exact List.mem_cons_self | exact List.mem_append_left _ (by assumption) | apply List.mem_cons_of_mem | apply List.mem_append_right)) | exact Sees.root (hR _ (by omega)) | exact Sees.own (RowsIn.mem (by repeat (first | exact RowsIn.here | exact RowsIn.last | apply RowsIn.there | apply RowsIn.thereS)) _ (by omega)) | exact Sees.own (WRowsIn.mem (by repeat (first | exact WRowsIn.here | exact WRowsIn.last | apply WRowsIn.there | apply WRowsIn.thereS)) _ (by omega))) rfl) ?_
              refine VL.r (.inr ⟨_, _, _, rfl, rfl, rfl⟩) rfl (by decide) (yr_int rfl rfl rfl (.inr (.inr ⟨rfl, wrap_in (by omega)⟩))) ?_
              refine VL.r (.inr ⟨_, _, _, rfl, rfl, rfl⟩) rfl (by decide) (yr_fieldAddr rfl Try.underlying35 rfl rfl sz2_Mesh (by decide) rfl) ?_
              refine VL.q (.inr ⟨_, _, _, rfl, rfl, rfl⟩) rfl (by decide) (yq_load rfl fb2_Mesh rfl (by first | exact Sees.root (by assumption) | exact Sees.own (by repeat (first | exact List.mem_cons_self | exact List.mem_append_left _ (by assumption) | apply List.mem_cons_of_mem | apply List.mem_append_right)) | exact Sees.root (hR _ (by omega)) | exact Sees.own (RowsIn.mem (by repeat (first | exact RowsIn.here | exact RowsIn.last | apply RowsIn.there | apply RowsIn.thereS)) _ (by omega)) | exact Sees.own (WRowsIn.mem (by repeat (first | exact WRowsIn.here | exact WRowsIn.last | apply WRowsIn.there | apply WRowsIn.thereS)) _ (by omega))) rfl) ?_
              refine VL.r (.inr ⟨_, _, _, rfl, rfl, rfl⟩) rfl (by decide) (yr_int rfl rfl rfl (.inr (.inr ⟨rfl, wrap_in (by omega)⟩))) ?_
              refine VL.r (.inr ⟨_, _, _, rfl, rfl, rfl⟩) rfl (by decide) (yr_icmp rfl (.inl rfl) rfl rfl) ?_
              refine VL.r (.inl rfl) rfl (by decide) (yr_pick_t rfl rfl rfl) ?_
              refine VL.r (.inl rfl) rfl (by decide) (yr_assign rfl rfl) ?_
              refine VL.nil ?_
              refine VE.then_wp ?_
              refine V.ret ?_
              refine ret1 rfl rfl (fun w1 hw => ?_)
              first
                | exact ⟨congrArg Value.bool (meshOk_no1 (f := (f1, f2, f3)) (by assumption)), hw.below⟩
                | exact ⟨congrArg Value.bool (meshOk_no2 (by assumption)), hw.below⟩
                | exact ⟨congrArg Value.bool (meshOk_no3 (by assumption)), hw.below⟩
                | exact ⟨congrArg Value.bool (meshOk_no3 (szOk_no1 (by assumption)).symm), hw.below⟩
                | exact ⟨congrArg Value.bool (meshOk_no3 (szOk_no2 (by assumption)).symm), hw.below⟩
                | exact ⟨congrArg Value.bool (meshOk_no3 (szOk_no3 (by assumption)).symm), hw.below⟩
                | exact ⟨congrArg Value.bool (meshOk_no3 (szOk_no4 (by omega))), hw.below⟩
                | exact ⟨congrArg Value.bool (meshOk_last (f := (f1, f2, f3)) (by assumption) (by assumption) (by assumption)), hw.below⟩
                | exact ⟨congrArg Value.bool (meshOk_last (f := (f1, f2, f3)) (by assumption) (by assumption) (szOk_yes (by assumption) (by assumption) (by assumption) (by omega))), hw.below⟩
            · skip
              replace h6 := ic_leq' h6
              refine VL.no rfl rfl rfl rfl rfl (by decide) ?_
              refine VL.no rfl rfl rfl rfl rfl (by decide) ?_
              refine VL.no rfl rfl rfl rfl rfl (by decide) ?_
              refine VL.no rfl rfl rfl rfl rfl (by decide) ?_
              refine VL.no rfl rfl rfl rfl rfl (by decide) ?_
              refine VL.no rfl rfl rfl rfl rfl (by decide) ?_
              refine VL.no rfl rfl rfl rfl rfl (by decide) ?_
              refine VL.no rfl rfl rfl rfl rfl (by decide) ?_
              refine VL.no rfl rfl rfl rfl rfl (by decide) ?_
              refine VL.no rfl rfl rfl rfl rfl (by decide) ?_
              refine VL.no rfl rfl rfl rfl rfl (by decide) ?_
              refine VL.no rfl rfl rfl rfl rfl (by decide) ?_
              refine VL.r (.inl rfl) rfl (by decide) (yr_pick_f (u := .bool false) rfl rfl rfl) ?_
              refine VL.r (.inl rfl) rfl (by decide) (yr_assign rfl rfl) ?_
              refine VL.nil ?_
              refine VE.then_wp ?_
              refine V.ret ?_
              refine ret1 rfl rfl (fun w1 hw => ?_)
              first
                | exact ⟨congrArg Value.bool (meshOk_no1 (f := (f1, f2, f3)) (by assumption)), hw.below⟩
                | exact ⟨congrArg Value.bool (meshOk_no2 (by assumption)), hw.below⟩
                | exact ⟨congrArg Value.bool (meshOk_no3 (by assumption)), hw.below⟩
                | exact ⟨congrArg Value.bool (meshOk_no3 (szOk_no1 (by assumption)).symm), hw.below⟩
                | exact ⟨congrArg Value.bool (meshOk_no3 (szOk_no2 (by assumption)).symm), hw.below⟩
                | exact ⟨congrArg Value.bool (meshOk_no3 (szOk_no3 (by assumption)).symm), hw.below⟩
                | exact ⟨congrArg Value.bool (meshOk_no3 (szOk_no4 (by omega))), hw.below⟩
                | exact ⟨congrArg Value.bool (meshOk_last (f := (f1, f2, f3)) (by assumption) (by assumption) (by assumption)), hw.below⟩
                | exact ⟨congrArg Value.bool (meshOk_last (f := (f1, f2, f3)) (by assumption) (by assumption) (szOk_yes (by assumption) (by assumption) (by assumption) (by omega))), hw.below⟩
          · skip
            refine VL.no rfl rfl rfl rfl rfl (by decide) ?_
            refine VL.no rfl rfl rfl rfl rfl (by decide) ?_
            refine VL.no rfl rfl rfl rfl rfl (by decide) ?_
            refine VL.no rfl rfl rfl rfl rfl (by decide) ?_
            refine VL.no rfl rfl rfl rfl rfl (by decide) ?_
            refine VL.no rfl rfl rfl rfl rfl (by decide) ?_
            refine VL.no rfl rfl rfl rfl rfl (by decide) ?_
            refine VL.no rfl rfl rfl rfl rfl (by decide) ?_
            refine VL.no rfl rfl rfl rfl rfl (by decide) ?_
            refine VL.r (.inl rfl) rfl (by decide) (yr_pick_f (u := .bool false) rfl rfl rfl) ?_
            refine VL.r (.inl rfl) rfl (by decide) (yr_move rfl rfl) ?_
            refine VL.no rfl rfl rfl rfl rfl (by decide) ?_
            refine VL.no rfl rfl rfl rfl rfl (by decide) ?_
            refine VL.no rfl rfl rfl rfl rfl (by decide) ?_
            refine VL.no rfl rfl rfl rfl rfl (by decide) ?_
            refine VL.no rfl rfl rfl rfl rfl (by decide) ?_
            refine VL.no rfl rfl rfl rfl rfl (by decide) ?_
            refine VL.no rfl rfl rfl rfl rfl (by decide) ?_
            refine VL.no rfl rfl rfl rfl rfl (by decide) ?_
            refine VL.no rfl rfl rfl rfl rfl (by decide) ?_
            refine VL.no rfl rfl rfl rfl rfl (by decide) ?_
            refine VL.no rfl rfl rfl rfl rfl (by decide) ?_
            refine VL.no rfl rfl rfl rfl rfl (by decide) ?_
            refine VL.r (.inl rfl) rfl (by decide) (yr_pick_f (u := .bool false) rfl rfl rfl) ?_
            refine VL.r (.inl rfl) rfl (by decide) (yr_assign rfl rfl) ?_
            refine VL.nil ?_
            refine VE.then_wp ?_
            refine V.ret ?_
            refine ret1 rfl rfl (fun w1 hw => ?_)
            first
              | exact ⟨congrArg Value.bool (meshOk_no1 (f := (f1, f2, f3)) (by assumption)), hw.below⟩
              | exact ⟨congrArg Value.bool (meshOk_no2 (by assumption)), hw.below⟩
              | exact ⟨congrArg Value.bool (meshOk_no3 (by assumption)), hw.below⟩
              | exact ⟨congrArg Value.bool (meshOk_no3 (szOk_no1 (by assumption)).symm), hw.below⟩
              | exact ⟨congrArg Value.bool (meshOk_no3 (szOk_no2 (by assumption)).symm), hw.below⟩
              | exact ⟨congrArg Value.bool (meshOk_no3 (szOk_no3 (by assumption)).symm), hw.below⟩
              | exact ⟨congrArg Value.bool (meshOk_no3 (szOk_no4 (by omega))), hw.below⟩
              | exact ⟨congrArg Value.bool (meshOk_last (f := (f1, f2, f3)) (by assumption) (by assumption) (by assumption)), hw.below⟩
              | exact ⟨congrArg Value.bool (meshOk_last (f := (f1, f2, f3)) (by assumption) (by assumption) (szOk_yes (by assumption) (by assumption) (by assumption) (by omega))), hw.below⟩
        · skip
          refine VL.no rfl rfl rfl rfl rfl (by decide) ?_
          refine VL.no rfl rfl rfl rfl rfl (by decide) ?_
          refine VL.no rfl rfl rfl rfl rfl (by decide) ?_
          refine VL.r (.inl rfl) rfl (by decide) (yr_pick_f (u := .bool false) rfl rfl rfl) ?_
          refine VL.r (.inl rfl) rfl (by decide) (yr_move rfl rfl) ?_
          refine VL.no rfl rfl rfl rfl rfl (by decide) ?_
          refine VL.no rfl rfl rfl rfl rfl (by decide) ?_
          refine VL.no rfl rfl rfl rfl rfl (by decide) ?_
          refine VL.no rfl rfl rfl rfl rfl (by decide) ?_
          refine VL.no rfl rfl rfl rfl rfl (by decide) ?_
          refine VL.no rfl rfl rfl rfl rfl (by decide) ?_
          refine VL.no rfl rfl rfl rfl rfl (by decide) ?_
          refine VL.no rfl rfl rfl rfl rfl (by decide) ?_
          refine VL.no rfl rfl rfl rfl rfl (by decide) ?_
          refine VL.r (.inl rfl) rfl (by decide) (yr_pick_f (u := .bool false) rfl rfl rfl) ?_
          refine VL.r (.inl rfl) rfl (by decide) (yr_move rfl rfl) ?_
          refine VL.no rfl rfl rfl rfl rfl (by decide) ?_
          refine VL.no rfl rfl rfl rfl rfl (by decide) ?_
          refine VL.no rfl rfl rfl rfl rfl (by decide) ?_
          refine VL.no rfl rfl rfl rfl rfl (by decide) ?_
          refine VL.no rfl rfl rfl rfl rfl (by decide) ?_
          refine VL.no rfl rfl rfl rfl rfl (by decide) ?_
          refine VL.no rfl rfl rfl rfl rfl (by decide) ?_
          refine VL.no rfl rfl rfl rfl rfl (by decide) ?_
          refine VL.no rfl rfl rfl rfl rfl (by decide) ?_
          refine VL.no rfl rfl rfl rfl rfl (by decide) ?_
          refine VL.no rfl rfl rfl rfl rfl (by decide) ?_
          refine VL.no rfl rfl rfl rfl rfl (by decide) ?_
          refine VL.r (.inl rfl) rfl (by decide) (yr_pick_f (u := .bool false) rfl rfl rfl) ?_
          refine VL.r (.inl rfl) rfl (by decide) (yr_assign rfl rfl) ?_
          refine VL.nil ?_
          refine VE.then_wp ?_
          refine V.ret ?_
          refine ret1 rfl rfl (fun w1 hw => ?_)
          first
            | exact ⟨congrArg Value.bool (meshOk_no1 (f := (f1, f2, f3)) (by assumption)), hw.below⟩
            | exact ⟨congrArg Value.bool (meshOk_no2 (by assumption)), hw.below⟩
            | exact ⟨congrArg Value.bool (meshOk_no3 (by assumption)), hw.below⟩
            | exact ⟨congrArg Value.bool (meshOk_no3 (szOk_no1 (by assumption)).symm), hw.below⟩
            | exact ⟨congrArg Value.bool (meshOk_no3 (szOk_no2 (by assumption)).symm), hw.below⟩
            | exact ⟨congrArg Value.bool (meshOk_no3 (szOk_no3 (by assumption)).symm), hw.below⟩
            | exact ⟨congrArg Value.bool (meshOk_no3 (szOk_no4 (by omega))), hw.below⟩
            | exact ⟨congrArg Value.bool (meshOk_last (f := (f1, f2, f3)) (by assumption) (by assumption) (by assumption)), hw.below⟩
            | exact ⟨congrArg Value.bool (meshOk_last (f := (f1, f2, f3)) (by assumption) (by assumption) (szOk_yes (by assumption) (by assumption) (by assumption) (by omega))), hw.below⟩
      · skip
        refine VL.no rfl rfl rfl rfl rfl (by decide) ?_
        refine VL.no rfl rfl rfl rfl rfl (by decide) ?_
        refine VL.no rfl rfl rfl rfl rfl (by decide) ?_
        refine VL.r (.inl rfl) rfl (by decide) (yr_pick_f (u := .bool false) rfl rfl rfl) ?_
        refine VL.r (.inl rfl) rfl (by decide) (yr_move rfl rfl) ?_
        refine VL.no rfl rfl rfl rfl rfl (by decide) ?_
        refine VL.no rfl rfl rfl rfl rfl (by decide) ?_
        refine VL.no rfl rfl rfl rfl rfl (by decide) ?_
        refine VL.r (.inl rfl) rfl (by decide) (yr_pick_f (u := .bool false) rfl rfl rfl) ?_
        refine VL.r (.inl rfl) rfl (by decide) (yr_move rfl rfl) ?_
        refine VL.no rfl rfl rfl rfl rfl (by decide) ?_
        refine VL.no rfl rfl rfl rfl rfl (by decide) ?_
        refine VL.no rfl rfl rfl rfl rfl (by decide) ?_
        refine VL.no rfl rfl rfl rfl rfl (by decide) ?_
        refine VL.no rfl rfl rfl rfl rfl (by decide) ?_
        refine VL.no rfl rfl rfl rfl rfl (by decide) ?_
        refine VL.no rfl rfl rfl rfl rfl (by decide) ?_
        refine VL.no rfl rfl rfl rfl rfl (by decide) ?_
        refine VL.no rfl rfl rfl rfl rfl (by decide) ?_
        refine VL.r (.inl rfl) rfl (by decide) (yr_pick_f (u := .bool false) rfl rfl rfl) ?_
        refine VL.r (.inl rfl) rfl (by decide) (yr_move rfl rfl) ?_
        refine VL.no rfl rfl rfl rfl rfl (by decide) ?_
        refine VL.no rfl rfl rfl rfl rfl (by decide) ?_
        refine VL.no rfl rfl rfl rfl rfl (by decide) ?_
        refine VL.no rfl rfl rfl rfl rfl (by decide) ?_
        refine VL.no rfl rfl rfl rfl rfl (by decide) ?_
        refine VL.no rfl rfl rfl rfl rfl (by decide) ?_
        refine VL.no rfl rfl rfl rfl rfl (by decide) ?_
        refine VL.no rfl rfl rfl rfl rfl (by decide) ?_
        refine VL.no rfl rfl rfl rfl rfl (by decide) ?_
        refine VL.no rfl rfl rfl rfl rfl (by decide) ?_
        refine VL.no rfl rfl rfl rfl rfl (by decide) ?_
        refine VL.no rfl rfl rfl rfl rfl (by decide) ?_
        refine VL.r (.inl rfl) rfl (by decide) (yr_pick_f (u := .bool false) rfl rfl rfl) ?_
        refine VL.r (.inl rfl) rfl (by decide) (yr_assign rfl rfl) ?_
        refine VL.nil ?_
        refine VE.then_wp ?_
        refine V.ret ?_
        refine ret1 rfl rfl (fun w1 hw => ?_)
        first
          | exact ⟨congrArg Value.bool (meshOk_no1 (f := (f1, f2, f3)) (by assumption)), hw.below⟩
          | exact ⟨congrArg Value.bool (meshOk_no2 (by assumption)), hw.below⟩
          | exact ⟨congrArg Value.bool (meshOk_no3 (by assumption)), hw.below⟩
          | exact ⟨congrArg Value.bool (meshOk_no3 (szOk_no1 (by assumption)).symm), hw.below⟩
          | exact ⟨congrArg Value.bool (meshOk_no3 (szOk_no2 (by assumption)).symm), hw.below⟩
          | exact ⟨congrArg Value.bool (meshOk_no3 (szOk_no3 (by assumption)).symm), hw.below⟩
          | exact ⟨congrArg Value.bool (meshOk_no3 (szOk_no4 (by omega))), hw.below⟩
          | exact ⟨congrArg Value.bool (meshOk_last (f := (f1, f2, f3)) (by assumption) (by assumption) (by assumption)), hw.below⟩
          | exact ⟨congrArg Value.bool (meshOk_last (f := (f1, f2, f3)) (by assumption) (by assumption) (szOk_yes (by assumption) (by assumption) (by assumption) (by omega))), hw.below⟩
    · skip
      refine VL.no rfl rfl rfl rfl rfl (by decide) ?_
      refine VL.no rfl rfl rfl rfl rfl (by decide) ?_
      refine VL.no rfl rfl rfl rfl rfl (by decide) ?_
      refine VL.r (.inl rfl) rfl (by decide) (yr_pick_f (u := .bool false) rfl rfl rfl) ?_
      refine VL.r (.inl rfl) rfl (by decide) (yr_move rfl rfl) ?_
      refine VL.no rfl rfl rfl rfl rfl (by decide) ?_
      refine VL.no rfl rfl rfl rfl rfl (by decide) ?_
      refine VL.no rfl rfl rfl rfl rfl (by decide) ?_
      refine VL.r (.inl rfl) rfl (by decide) (yr_pick_f (u := .bool false) rfl rfl rfl) ?_
      refine VL.r (.inl rfl) rfl (by decide) (yr_move rfl rfl) ?_
      refine VL.no rfl rfl rfl rfl rfl (by decide) ?_
      refine VL.no rfl rfl rfl rfl rfl (by decide) ?_
      refine VL.no rfl rfl rfl rfl rfl (by decide) ?_
      refine VL.r (.inl rfl) rfl (by decide) (yr_pick_f (u := .bool false) rfl rfl rfl) ?_
      refine VL.r (.inl rfl) rfl (by decide) (yr_move rfl rfl) ?_
      refine VL.no rfl rfl rfl rfl rfl (by decide) ?_
      refine VL.no rfl rfl rfl rfl rfl (by decide) ?_
      refine VL.no rfl rfl rfl rfl rfl (by decide) ?_
      refine VL.no rfl rfl rfl rfl rfl (by decide) ?_
      refine VL.no rfl rfl rfl rfl rfl (by decide) ?_
      refine VL.no rfl rfl rfl rfl rfl (by decide) ?_
      refine VL.no rfl rfl rfl rfl rfl (by decide) ?_
      refine VL.no rfl rfl rfl rfl rfl (by decide) ?_
      refine VL.no rfl rfl rfl rfl rfl (by decide) ?_
      refine VL.r (.inl rfl) rfl (by decide) (yr_pick_f (u := .bool false) rfl rfl rfl) ?_
      refine VL.r (.inl rfl) rfl (by decide) (yr_move rfl rfl) ?_
      refine VL.no rfl rfl rfl rfl rfl (by decide) ?_
      refine VL.no rfl rfl rfl rfl rfl (by decide) ?_
      refine VL.no rfl rfl rfl rfl rfl (by decide) ?_
      refine VL.no rfl rfl rfl rfl rfl (by decide) ?_
      refine VL.no rfl rfl rfl rfl rfl (by decide) ?_
      refine VL.no rfl rfl rfl rfl rfl (by decide) ?_
      refine VL.no rfl rfl rfl rfl rfl (by decide) ?_
      refine VL.no rfl rfl rfl rfl rfl (by decide) ?_
      refine VL.no rfl rfl rfl rfl rfl (by decide) ?_
      refine VL.no rfl rfl rfl rfl rfl (by decide) ?_
      refine VL.no rfl rfl rfl rfl rfl (by decide) ?_
      refine VL.no rfl rfl rfl rfl rfl (by decide) ?_
      refine VL.r (.inl rfl) rfl (by decide) (yr_pick_f (u := .bool false) rfl rfl rfl) ?_
      refine VL.r (.inl rfl) rfl (by decide) (yr_assign rfl rfl) ?_
      refine VL.nil ?_
      refine VE.then_wp ?_
      refine V.ret ?_
      refine ret1 rfl rfl (fun w1 hw => ?_)
      first
        | exact ⟨congrArg Value.bool (meshOk_no1 (f := (f1, f2, f3)) (by assumption)), hw.below⟩
        | exact ⟨congrArg Value.bool (meshOk_no2 (by assumption)), hw.below⟩
        | exact ⟨congrArg Value.bool (meshOk_no3 (by assumption)), hw.below⟩
        | exact ⟨congrArg Value.bool (meshOk_no3 (szOk_no1 (by assumption)).symm), hw.below⟩
        | exact ⟨congrArg Value.bool (meshOk_no3 (szOk_no2 (by assumption)).symm), hw.below⟩
        | exact ⟨congrArg Value.bool (meshOk_no3 (szOk_no3 (by assumption)).symm), hw.below⟩
        | exact ⟨congrArg Value.bool (meshOk_no3 (szOk_no4 (by omega))), hw.below⟩
        | exact ⟨congrArg Value.bool (meshOk_last (f := (f1, f2, f3)) (by assumption) (by assumption) (by assumption)), hw.below⟩
        | exact ⟨congrArg Value.bool (meshOk_last (f := (f1, f2, f3)) (by assumption) (by assumption) (szOk_yes (by assumption) (by assumption) (by assumption) (by omega))), hw.below⟩
  · skip
    refine VL.no rfl rfl rfl rfl rfl (by decide) ?_
    refine VL.no rfl rfl rfl rfl rfl (by decide) ?_
    refine VL.no rfl rfl rfl rfl rfl (by decide) ?_
    refine VL.r (.inl rfl) rfl (by decide) (yr_pick_f (u := .bool false) rfl rfl rfl) ?_
    refine VL.r (.inl rfl) rfl (by decide) (yr_move rfl rfl) ?_
    refine VL.no rfl rfl rfl rfl rfl (by decide) ?_
    refine VL.no rfl rfl rfl rfl rfl (by decide) ?_
    refine VL.no rfl rfl rfl rfl rfl (by decide) ?_
    refine VL.r (.inl rfl) rfl (by decide) (yr_pick_f (u := .bool false) rfl rfl rfl) ?_
    refine VL.r (.inl rfl) rfl (by decide) (yr_move rfl rfl) ?_
    refine VL.no rfl rfl rfl rfl rfl (by decide) ?_
    refine VL.no rfl rfl rfl rfl rfl (by decide) ?_
    refine VL.no rfl rfl rfl rfl rfl (by decide) ?_
    refine VL.r (.inl rfl) rfl (by decide) (yr_pick_f (u := .bool false) rfl rfl rfl) ?_
    refine VL.r (.inl rfl) rfl (by decide) (yr_move rfl rfl) ?_
    refine VL.no rfl rfl rfl rfl rfl (by decide) ?_
    refine VL.no rfl rfl rfl rfl rfl (by decide) ?_
    refine VL.no rfl rfl rfl rfl rfl (by decide) ?_
    refine VL.r (.inl rfl) rfl (by decide) (yr_pick_f (u := .bool false) rfl rfl rfl) ?_
    refine VL.r (.inl rfl) rfl (by decide) (yr_move rfl rfl) ?_
    refine VL.no rfl rfl rfl rfl rfl (by decide) ?_
    refine VL.no rfl rfl rfl rfl rfl (by decide) ?_
    refine VL.no rfl rfl rfl rfl rfl (by decide) ?_
    refine VL.no rfl rfl rfl rfl rfl (by decide) ?_
    refine VL.no rfl rfl rfl rfl rfl (by decide) ?_
    refine VL.no rfl rfl rfl rfl rfl (by decide) ?_
    refine VL.no rfl rfl rfl rfl rfl (by decide) ?_
    refine VL.no rfl rfl rfl rfl rfl (by decide) ?_
    refine VL.no rfl rfl rfl rfl rfl (by decide) ?_
    refine VL.r (.inl rfl) rfl (by decide) (yr_pick_f (u := .bool false) rfl rfl rfl) ?_
    refine VL.r (.inl rfl) rfl (by decide) (yr_move rfl rfl) ?_
    refine VL.no rfl rfl rfl rfl rfl (by decide) ?_
    refine VL.no rfl rfl rfl rfl rfl (by decide) ?_
    refine VL.no rfl rfl rfl rfl rfl (by decide) ?_
    refine VL.no rfl rfl rfl rfl rfl (by decide) ?_
    refine VL.no rfl rfl rfl rfl rfl (by decide) ?_
    refine VL.no rfl rfl rfl rfl rfl (by decide) ?_
    refine VL.no rfl rfl rfl rfl rfl (by decide) ?_
    refine VL.no rfl rfl rfl rfl rfl (by decide) ?_
    refine VL.no rfl rfl rfl rfl rfl (by decide) ?_
    refine VL.no rfl rfl rfl rfl rfl (by decide) ?_
    refine VL.no rfl rfl rfl rfl rfl (by decide) ?_
    refine VL.no rfl rfl rfl rfl rfl (by decide) ?_
    refine VL.r (.inl rfl) rfl (by decide) (yr_pick_f (u := .bool false) rfl rfl rfl) ?_
    refine VL.r (.inl rfl) rfl (by decide) (yr_assign rfl rfl) ?_
    refine VL.nil ?_
    refine VE.then_wp ?_
    refine V.ret ?_
    refine ret1 rfl rfl (fun w1 hw => ?_)
    first
      | exact ⟨congrArg Value.bool (meshOk_no1 (f := (f1, f2, f3)) (by assumption)), hw.below⟩
      | exact ⟨congrArg Value.bool (meshOk_no2 (by assumption)), hw.below⟩
      | exact ⟨congrArg Value.bool (meshOk_no3 (by assumption)), hw.below⟩
      | exact ⟨congrArg Value.bool (meshOk_no3 (szOk_no1 (by assumption)).symm), hw.below⟩
      | exact ⟨congrArg Value.bool (meshOk_no3 (szOk_no2 (by assumption)).symm), hw.below⟩
      | exact ⟨congrArg Value.bool (meshOk_no3 (szOk_no3 (by assumption)).symm), hw.below⟩
      | exact ⟨congrArg Value.bool (meshOk_no3 (szOk_no4 (by omega))), hw.below⟩
      | exact ⟨congrArg Value.bool (meshOk_last (f := (f1, f2, f3)) (by assumption) (by assumption) (by assumption)), hw.below⟩
      | exact ⟨congrArg Value.bool (meshOk_last (f := (f1, f2, f3)) (by assumption) (by assumption) (szOk_yes (by assumption) (by assumption) (by assumption) (by omega))), hw.below⟩

theorem c_ifMeshY {w : World} {f1 f2 f3 st : Nat} {wi hi de : Int} {a : Option Addr} {m c : Nat} (hv : meshOk (f1, f2, f3) st wi hi de m = true) : Pure Try.prog 26 [.agg #[.float .f32 f1, .float .f32 f2, .float .f32 f3, .float .f32 st, .int .i64 wi, .int .i64 hi, .int .i64 de, .slice a m c]] w (.tuple #[.agg #[.float .f32 f1, .float .f32 f2, .float .f32 f3, .float .f32 st, .int .i64 wi, .int .i64 hi, .int .i64 de, .slice a m c], .bool true]) := by
  refine Pure.enter Try.func26 rfl Try.ntmps26 (Nat.le_of_ble_eq_true rfl) ?_
  refine V.seq ?_
  refine V.region ?_
  refine VL.new1 (.inl rfl) rfl (by decide) (yn_box rfl rfl (.inr ⟨rfl, rfl⟩)) ?_
  intro b1
  refine VL.new1 (.inl rfl) rfl (by decide) (yn_alloc rfl zero35_Mesh rfl) ?_
  intro b2
  refine VL.r (.inl rfl) rfl (by decide) (yr_assign (u := .bool false) rfl rfl) ?_
  refine VL.nil ?_
  refine VE.then_wp ?_
  refine V.seq ?_
  refine V.seq ?_
  refine V.region ?_
  refine VL.q (.inl rfl) rfl (by decide) (yq_loadS rfl Try.underlying35 sz35_Mesh rfl (by first | exact Sees.root (by assumption) | exact Sees.own (by repeat (first | exact List.mem_cons_self | exact List.mem_append_left _ (by assumption) | apply List.mem_cons_of_mem | apply List.mem_append_right)) | exact Sees.root (hR _ (by omega)) | exact Sees.own (RowsIn.mem (by repeat (first | exact RowsIn.here | exact RowsIn.last | apply RowsIn.there | apply RowsIn.thereS)) _ (by omega)) | exact Sees.own (WRowsIn.mem (by repeat (first | exact WRowsIn.here | exact WRowsIn.last | apply WRowsIn.there | apply WRowsIn.thereS)) _ (by omega))) rfl rfl rfl) ?_
  refine VL.q (.inl rfl) rfl (by decide) (yq_callf rfl known8_Mesh (.cons rfl .nil) (fun w hw => c_implMesh)) ?_
  refine VL.r (.inl rfl) rfl (by decide) (yr_not rfl rfl) ?_
  refine VL.nil ?_
  refine VE.then_wp ?_
  refine V.cond rfl (fun h1 => ?_) (fun h1 => ?_)
  · skip
    replace h1 := bnot_t h1
    rw [hv] at h1; cases h1
  · skip
    replace h1 := bnot_f h1
    refine V.skip ?_
    refine VE.then_wp ?_
    refine V.seq ?_
    refine V.region ?_
    refine VL.q (.inl rfl) rfl (by decide) (yq_loadS rfl Try.underlying35 sz35_Mesh rfl (by first | exact Sees.root (by assumption) | exact Sees.own (by repeat (first | exact List.mem_cons_self | exact List.mem_append_left _ (by assumption) | apply List.mem_cons_of_mem | apply List.mem_append_right)) | exact Sees.root (hR _ (by omega)) | exact Sees.own (RowsIn.mem (by repeat (first | exact RowsIn.here | exact RowsIn.last | apply RowsIn.there | apply RowsIn.thereS)) _ (by omega)) | exact Sees.own (WRowsIn.mem (by repeat (first | exact WRowsIn.here | exact WRowsIn.last | apply WRowsIn.there | apply WRowsIn.thereS)) _ (by omega))) rfl rfl rfl) ?_
    refine VL.s (.inl rfl) rfl (yc_store rfl sz35_Mesh rfl rfl (by repeat (first | exact UpdF.here | apply UpdF.there | apply UpdF.thereS)) (.inr ⟨rfl, rfl⟩) rfl (by first | exact Nat.le_of_ble_eq_true rfl | simp) (by decide) rfl) ?_
    rintro ⟨⟩
    refine VL.r (.inl rfl) rfl (by decide) (yr_assign (u := .bool true) rfl rfl) ?_
    refine VL.nil ?_
    refine VE.then_wp ?_
    refine V.ret ?_
    refine retN rfl (.cons (rv_cellS rfl Try.underlying35 sz35_Mesh (by first | exact Sees.root (by assumption) | exact Sees.own (by repeat (first | exact List.mem_cons_self | exact List.mem_append_left _ (by assumption) | apply List.mem_cons_of_mem | apply List.mem_append_right)) | exact Sees.root (hR _ (by omega)) | exact Sees.own (RowsIn.mem (by repeat (first | exact RowsIn.here | exact RowsIn.last | apply RowsIn.there | apply RowsIn.thereS)) _ (by omega)) | exact Sees.own (WRowsIn.mem (by repeat (first | exact WRowsIn.here | exact WRowsIn.last | apply WRowsIn.there | apply WRowsIn.thereS)) _ (by omega))) rfl rfl rfl) (.cons (rv_tmp rfl (by nofun)) .nil)) (by nofun) (fun w1 hw => ?_)
    exact ⟨rfl, hw.below⟩

theorem c_ifMeshN {w : World} {f1 f2 f3 st : Nat} {wi hi de : Int} {a : Option Addr} {m c : Nat} (hv : meshOk (f1, f2, f3) st wi hi de m = false) : Pure Try.prog 26 [.agg #[.float .f32 f1, .float .f32 f2, .float .f32 f3, .float .f32 st, .int .i64 wi, .int .i64 hi, .int .i64 de, .slice a m c]] w (.tuple #[.agg #[.float .f32 0, .float .f32 0, .float .f32 0, .float .f32 0, .int .i64 0, .int .i64 0, .int .i64 0, .slice none 0 0], .bool false]) := by
  refine Pure.enter Try.func26 rfl Try.ntmps26 (Nat.le_of_ble_eq_true rfl) ?_
  refine V.seq ?_
  refine V.region ?_
  refine VL.new1 (.inl rfl) rfl (by decide) (yn_box rfl rfl (.inr ⟨rfl, rfl⟩)) ?_
  intro b1
  refine VL.new1 (.inl rfl) rfl (by decide) (yn_alloc rfl zero35_Mesh rfl) ?_
  intro b2
  refine VL.r (.inl rfl) rfl (by decide) (yr_assign (u := .bool false) rfl rfl) ?_
  refine VL.nil ?_
  refine VE.then_wp ?_
  refine V.seq ?_
  refine V.seq ?_
  refine V.region ?_
  refine VL.q (.inl rfl) rfl (by decide) (yq_loadS rfl Try.underlying35 sz35_Mesh rfl (by first | exact Sees.root (by assumption) | exact Sees.own (by repeat (first | exact List.mem_cons_self | exact List.mem_append_left _ (by assumption) | apply List.mem_cons_of_mem | apply List.mem_append_right)) | exact Sees.root (hR _ (by omega)) | exact Sees.own (RowsIn.mem (by repeat (first | exact RowsIn.here | exact RowsIn.last | apply RowsIn.there | apply RowsIn.thereS)) _ (by omega)) | exact Sees.own (WRowsIn.mem (by repeat (first | exact WRowsIn.here | exact WRowsIn.last | apply WRowsIn.there | apply WRowsIn.thereS)) _ (by omega))) rfl rfl rfl) ?_
  refine VL.q (.inl rfl) rfl (by decide) (yq_callf rfl known8_Mesh (.cons rfl .nil) (fun w hw => c_implMesh)) ?_
  refine VL.r (.inl rfl) rfl (by decide) (yr_not rfl rfl) ?_
  refine VL.nil ?_
  refine VE.then_wp ?_
  refine V.cond rfl (fun h1 => ?_) (fun h1 => ?_)
  · skip
    replace h1 := bnot_t h1
    refine V.seq ?_
    refine V.region ?_
    refine VL.r (.inl rfl) rfl (by decide) (yr_build rfl lay35_Mesh rfl .nil (by first | (simp; done) | (simp [vv]; done) | (simp [cn, cn1, cn0]; done)) rfl) ?_
    refine VL.s (.inl rfl) rfl (yc_store rfl sz35_Mesh rfl rfl (by repeat (first | exact UpdF.here | apply UpdF.there | apply UpdF.thereS)) (.inr ⟨rfl, rfl⟩) rfl (by first | exact Nat.le_of_ble_eq_true rfl | simp) (by decide) rfl) ?_
    rintro ⟨⟩
    refine VL.r (.inl rfl) rfl (by decide) (yr_assign (u := .bool false) rfl rfl) ?_
    refine VL.nil ?_
    refine VE.then_wp ?_
    refine V.ret ?_
    refine VE.then_ret ?_
    refine retN rfl (.cons (rv_cellS rfl Try.underlying35 sz35_Mesh (by first | exact Sees.root (by assumption) | exact Sees.own (by repeat (first | exact List.mem_cons_self | exact List.mem_append_left _ (by assumption) | apply List.mem_cons_of_mem | apply List.mem_append_right)) | exact Sees.root (hR _ (by omega)) | exact Sees.own (RowsIn.mem (by repeat (first | exact RowsIn.here | exact RowsIn.last | apply RowsIn.there | apply RowsIn.thereS)) _ (by omega)) | exact Sees.own (WRowsIn.mem (by repeat (first | exact WRowsIn.here | exact WRowsIn.last | apply WRowsIn.there | apply WRowsIn.thereS)) _ (by omega))) rfl rfl rfl) (.cons (rv_tmp rfl (by nofun)) .nil)) (by nofun) (fun w1 hw => ?_)
    exact ⟨rfl, hw.below⟩
  · skip
    replace h1 := bnot_f h1
    rw [hv] at h1; cases h1

theorem c_place {w : World} {f1 f2 f3 st : Nat} {wi hi de : Int} {a : Option Addr} {m c : Nat} {x y z : Nat} : Pure Try.prog 25 [.agg #[.float .f32 f1, .float .f32 f2, .float .f32 f3, .float .f32 st, .int .i64 wi, .int .i64 hi, .int .i64 de, .slice a m c], .float .f32 x, .float .f32 y, .float .f32 z] w (vv (place3 (f1, f2, f3) st x y z)) := by
  refine Pure.enter Try.func25 rfl Try.ntmps25 (Nat.le_of_ble_eq_true rfl) ?_
  refine V.seq ?_
  refine V.region ?_
  refine VL.new1 (.inl rfl) rfl (by decide) (yn_box rfl rfl (.inr ⟨rfl, rfl⟩)) ?_
  intro b4
  refine VL.new1 (.inl rfl) rfl (by decide) (yn_alloc rfl zero32_Mesh rfl) ?_
  intro b8
  refine VL.nil ?_
  refine VE.then_wp ?_
  refine V.seq ?_
  refine V.region ?_
  refine VL.r (.inl rfl) rfl (by decide) (yr_fieldAddr rfl Try.underlying35 rfl rfl sz32_Mesh (by decide) rfl) ?_
  refine VL.q (.inl rfl) rfl (by decide) (yq_loadS rfl Try.underlying32 sz32_Mesh rfl (by first | exact Sees.root (by assumption) | exact Sees.own (by repeat (first | exact List.mem_cons_self | exact List.mem_append_left _ (by assumption) | apply List.mem_cons_of_mem | apply List.mem_append_right)) | exact Sees.root (hR _ (by omega)) | exact Sees.own (RowsIn.mem (by repeat (first | exact RowsIn.here | exact RowsIn.last | apply RowsIn.there | apply RowsIn.thereS)) _ (by omega)) | exact Sees.own (WRowsIn.mem (by repeat (first | exact WRowsIn.here | exact WRowsIn.last | apply WRowsIn.there | apply WRowsIn.thereS)) _ (by omega))) rfl rfl rfl) ?_
  refine VL.r (.inl rfl) rfl (by decide) (yr_move rfl rfl) ?_
  refine VL.r (.inl rfl) rfl (by decide) (yr_fieldAddr rfl Try.underlying35 rfl rfl sz25_Mesh (by decide) rfl) ?_
  refine VL.q (.inl rfl) rfl (by decide) (yq_load rfl fb25_Mesh rfl (by first | exact Sees.root (by assumption) | exact Sees.own (by repeat (first | exact List.mem_cons_self | exact List.mem_append_left _ (by assumption) | apply List.mem_cons_of_mem | apply List.mem_append_right)) | exact Sees.root (hR _ (by omega)) | exact Sees.own (RowsIn.mem (by repeat (first | exact RowsIn.here | exact RowsIn.last | apply RowsIn.there | apply RowsIn.thereS)) _ (by omega)) | exact Sees.own (WRowsIn.mem (by repeat (first | exact WRowsIn.here | exact WRowsIn.last | apply WRowsIn.there | apply WRowsIn.thereS)) _ (by omega))) rfl) ?_
  refine VL.r (.inl rfl) rfl (by decide) (yr_float rfl (.inr (.inr (.inl rfl))) rfl rfl) ?_
  refine VL.r (.inl rfl) rfl (by decide) (yr_move rfl rfl) ?_
  refine VL.r (.inl rfl) rfl (by decide) (yr_fieldAddr rfl Try.underlying35 rfl rfl sz25_Mesh (by decide) rfl) ?_
  refine VL.q (.inl rfl) rfl (by decide) (yq_load rfl fb25_Mesh rfl (by first | exact Sees.root (by assumption) | exact Sees.own (by repeat (first | exact List.mem_cons_self | exact List.mem_append_left _ (by assumption) | apply List.mem_cons_of_mem | apply List.mem_append_right)) | exact Sees.root (hR _ (by omega)) | exact Sees.own (RowsIn.mem (by repeat (first | exact RowsIn.here | exact RowsIn.last | apply RowsIn.there | apply RowsIn.thereS)) _ (by omega)) | exact Sees.own (WRowsIn.mem (by repeat (first | exact WRowsIn.here | exact WRowsIn.last | apply WRowsIn.there | apply WRowsIn.thereS)) _ (by omega))) rfl) ?_
  refine VL.r (.inl rfl) rfl (by decide) (yr_float rfl (.inr (.inr (.inl rfl))) rfl rfl) ?_
  refine VL.r (.inl rfl) rfl (by decide) (yr_move rfl rfl) ?_
  refine VL.r (.inl rfl) rfl (by decide) (yr_fieldAddr rfl Try.underlying35 rfl rfl sz25_Mesh (by decide) rfl) ?_
  refine VL.q (.inl rfl) rfl (by decide) (yq_load rfl fb25_Mesh rfl (by first | exact Sees.root (by assumption) | exact Sees.own (by repeat (first | exact List.mem_cons_self | exact List.mem_append_left _ (by assumption) | apply List.mem_cons_of_mem | apply List.mem_append_right)) | exact Sees.root (hR _ (by omega)) | exact Sees.own (RowsIn.mem (by repeat (first | exact RowsIn.here | exact RowsIn.last | apply RowsIn.there | apply RowsIn.thereS)) _ (by omega)) | exact Sees.own (WRowsIn.mem (by repeat (first | exact WRowsIn.here | exact WRowsIn.last | apply WRowsIn.there | apply WRowsIn.thereS)) _ (by omega))) rfl) ?_
  refine VL.r (.inl rfl) rfl (by decide) (yr_float rfl (.inr (.inr (.inl rfl))) rfl rfl) ?_
  refine VL.r (.inl rfl) rfl (by decide) (yr_build rfl lay32_Mesh rfl (.cons rfl (.cons rfl (.cons rfl .nil))) (by first | (simp; done) | (simp [vv]; done) | (simp [cn, cn1, cn0]; done)) rfl) ?_
  refine VL.q (.inl rfl) rfl (by decide) (yq_callf rfl known42_Mesh (.cons rfl (.cons rfl .nil)) (fun w hw => c_add3)) ?_
  refine VL.s (.inl rfl) rfl (yc_store rfl sz32_Mesh rfl rfl (by repeat (first | exact UpdF.here | apply UpdF.there | apply UpdF.thereS)) (.inr ⟨rfl, rfl⟩) rfl (by first | exact Nat.le_of_ble_eq_true rfl | simp) (by decide) rfl) ?_
  rintro ⟨⟩
  refine VL.nil ?_
  refine VE.then_wp ?_
  refine V.ret ?_
  refine retC rfl (rv_cellS rfl Try.underlying32 sz32_Mesh (by first | exact Sees.root (by assumption) | exact Sees.own (by repeat (first | exact List.mem_cons_self | exact List.mem_append_left _ (by assumption) | apply List.mem_cons_of_mem | apply List.mem_append_right)) | exact Sees.root (hR _ (by omega)) | exact Sees.own (RowsIn.mem (by repeat (first | exact RowsIn.here | exact RowsIn.last | apply RowsIn.there | apply RowsIn.thereS)) _ (by omega)) | exact Sees.own (WRowsIn.mem (by repeat (first | exact WRowsIn.here | exact WRowsIn.last | apply WRowsIn.there | apply WRowsIn.thereS)) _ (by omega))) rfl rfl rfl) (by nofun) (fun w1 hw => ?_)
  exact ⟨rfl, hw.below⟩

theorem c_at {w : World} {f1 f2 f3 st W H D : Nat} {a : Option Addr} {c : Nat} {vs : List V3} {x y z : Nat} (hA : Cl w a (vl vs)) (hN : vs.length = W * H * D) (hbd : W * H * D ≤ 216) (hx : x < W) (hy : y < H) (hz : z < D) : Pure Try.prog 29 [.agg #[.float .f32 f1, .float .f32 f2, .float .f32 f3, .float .f32 st, .int .i64 (W : Int), .int .i64 (H : Int), .int .i64 (D : Int), .slice a vs.length c], .int .i64 (x : Int), .int .i64 (y : Int), .int .i64 (z : Int)] w (vv (mval vs W H x y z)) := by
  refine Pure.enter Try.func29 rfl Try.ntmps29 (Nat.le_of_ble_eq_true rfl) ?_
  have hnd := nd_facts (x := x) hx hy hz hbd
  unfold nd at hnd
  have hW8 : W ≤ 216 := by have := Nat.le_mul_of_pos_right W (show 0 < H * D from Nat.mul_pos (by omega) (by omega)); rw [← Nat.mul_assoc] at this; omega
  have hH8 : H ≤ 216 := by have := Nat.le_mul_of_pos_left H (show 0 < W * D from Nat.mul_pos (by omega) (by omega)); rw [Nat.mul_right_comm] at this; omega
  have hD8 : D ≤ 216 := by have := Nat.le_mul_of_pos_left D (show 0 < W * H from Nat.mul_pos (by omega) (by omega)); omega
  refine V.seq ?_
  refine V.region ?_
  refine VL.new1 (.inl rfl) rfl (by decide) (yn_box rfl rfl (.inr ⟨rfl, rfl⟩)) ?_
  intro b4
  refine VL.new1 (.inl rfl) rfl (by decide) (yn_alloc rfl zero32_Mesh rfl) ?_
  intro b8
  refine VL.nil ?_
  refine VE.then_wp ?_
  refine V.seq ?_
  refine V.region ?_
  refine VL.r (.inl rfl) rfl (by decide) (yr_fieldAddr rfl Try.underlying35 rfl rfl sz24_Mesh (by decide) rfl) ?_
  refine VL.q (.inl rfl) rfl (by decide) (yq_load rfl fb24_Mesh rfl (by first | exact Sees.root (by assumption) | exact Sees.own (by repeat (first | exact List.mem_cons_self | exact List.mem_append_left _ (by assumption) | apply List.mem_cons_of_mem | apply List.mem_append_right)) | exact Sees.root (hR _ (by omega)) | exact Sees.own (RowsIn.mem (by repeat (first | exact RowsIn.here | exact RowsIn.last | apply RowsIn.there | apply RowsIn.thereS)) _ (by omega)) | exact Sees.own (WRowsIn.mem (by repeat (first | exact WRowsIn.here | exact WRowsIn.last | apply WRowsIn.there | apply WRowsIn.thereS)) _ (by omega))) rfl) ?_
  refine VL.r (.inl rfl) rfl (by decide) (yr_move rfl rfl) ?_
  refine VL.r (.inl rfl) rfl (by decide) (yr_fieldAddr rfl Try.underlying35 rfl rfl sz2_Mesh (by decide) rfl) ?_
  refine VL.q (.inl rfl) rfl (by decide) (yq_load rfl fb2_Mesh rfl (by first | exact Sees.root (by assumption) | exact Sees.own (by repeat (first | exact List.mem_cons_self | exact List.mem_append_left _ (by assumption) | apply List.mem_cons_of_mem | apply List.mem_append_right)) | exact Sees.root (hR _ (by omega)) | exact Sees.own (RowsIn.mem (by repeat (first | exact RowsIn.here | exact RowsIn.last | apply RowsIn.there | apply RowsIn.thereS)) _ (by omega)) | exact Sees.own (WRowsIn.mem (by repeat (first | exact WRowsIn.here | exact WRowsIn.last | apply WRowsIn.there | apply WRowsIn.thereS)) _ (by omega))) rfl) ?_
  refine VL.r (.inl rfl) rfl (by decide) (yr_move rfl rfl) ?_
  refine VL.r (.inl rfl) rfl (by decide) (yr_fieldAddr rfl Try.underlying35 rfl rfl sz2_Mesh (by decide) rfl) ?_
  refine VL.q (.inl rfl) rfl (by decide) (yq_load rfl fb2_Mesh rfl (by first | exact Sees.root (by assumption) | exact Sees.own (by repeat (first | exact List.mem_cons_self | exact List.mem_append_left _ (by assumption) | apply List.mem_cons_of_mem | apply List.mem_append_right)) | exact Sees.root (hR _ (by omega)) | exact Sees.own (RowsIn.mem (by repeat (first | exact RowsIn.here | exact RowsIn.last | apply RowsIn.there | apply RowsIn.thereS)) _ (by omega)) | exact Sees.own (WRowsIn.mem (by repeat (first | exact WRowsIn.here | exact WRowsIn.last | apply WRowsIn.there | apply WRowsIn.thereS)) _ (by omega))) rfl) ?_
  refine VL.r (.inl rfl) rfl (by decide) (yr_move rfl rfl) ?_
  refine VL.r (.inl rfl) rfl (by decide) (yr_mulN H z rfl rfl rfl (by omega) (by omega) (Nat.le_trans (mul_small (by omega) (by omega)) (by decide))) ?_
  refine VL.r (.inl rfl) rfl (by decide) (yr_int rfl rfl rfl (.inl ⟨rfl, wrap_in (by omega)⟩)) ?_
  refine VL.r (.inl rfl) rfl (by decide) (yr_mulN W (y + (H * z)) rfl rfl rfl (by omega) (by omega) (Nat.le_trans (mul_small (by omega) (by omega)) (by decide))) ?_
  refine VL.r (.inl rfl) rfl (by decide) (yr_int rfl rfl rfl (.inl ⟨rfl, wrap_in (by omega)⟩)) ?_
  refine VL.q (.inl rfl) rfl (by decide) (yq_idxN (k := (x + (W * (y + (H * z))))) rfl Try.underlying24 sz32_Mesh rfl rfl (by first | exact Sees.root (by assumption) | exact Sees.own (by repeat (first | exact List.mem_cons_self | exact List.mem_append_left _ (by assumption) | apply List.mem_cons_of_mem | apply List.mem_append_right)) | exact Sees.root (hR _ (by omega)) | exact Sees.own (RowsIn.mem (by repeat (first | exact RowsIn.here | exact RowsIn.last | apply RowsIn.there | apply RowsIn.thereS)) _ (by omega)) | exact Sees.own (WRowsIn.mem (by repeat (first | exact WRowsIn.here | exact WRowsIn.last | apply WRowsIn.there | apply WRowsIn.thereS)) _ (by omega))) (by first | rfl | omega | (push_cast; rfl) | (push_cast; omega) | exact tmod_nat _ _) (by exact vl_length _) (by decide) (by omega)) ?_
  refine VL.q (.inl rfl) rfl (by decide) (yq_loadV rfl Try.underlying32 sz32_Mesh rfl (by first | exact Sees.root (by assumption) | exact Sees.own (by repeat (first | exact List.mem_cons_self | exact List.mem_append_left _ (by assumption) | apply List.mem_cons_of_mem | apply List.mem_append_right)) | exact Sees.root (hR _ (by omega)) | exact Sees.own (RowsIn.mem (by repeat (first | exact RowsIn.here | exact RowsIn.last | apply RowsIn.there | apply RowsIn.thereS)) _ (by omega)) | exact Sees.own (WRowsIn.mem (by repeat (first | exact WRowsIn.here | exact WRowsIn.last | apply WRowsIn.there | apply WRowsIn.thereS)) _ (by omega))) (by omega)) ?_
  refine VL.s (.inl rfl) rfl (yc_store rfl sz32_Mesh rfl rfl (by repeat (first | exact UpdF.here | apply UpdF.there | apply UpdF.thereS)) (.inr ⟨rfl, rfl⟩) rfl (by first | exact Nat.le_of_ble_eq_true rfl | simp) (by decide) rfl) ?_
  rintro ⟨⟩
  refine VL.nil ?_
  refine VE.then_wp ?_
  refine V.ret ?_
  refine retC rfl (rv_cellS rfl Try.underlying32 sz32_Mesh (by first | exact Sees.root (by assumption) | exact Sees.own (by repeat (first | exact List.mem_cons_self | exact List.mem_append_left _ (by assumption) | apply List.mem_cons_of_mem | apply List.mem_append_right)) | exact Sees.root (hR _ (by omega)) | exact Sees.own (RowsIn.mem (by repeat (first | exact RowsIn.here | exact RowsIn.last | apply RowsIn.there | apply RowsIn.thereS)) _ (by omega)) | exact Sees.own (WRowsIn.mem (by repeat (first | exact WRowsIn.here | exact WRowsIn.last | apply WRowsIn.there | apply WRowsIn.thereS)) _ (by omega))) rfl rfl rfl) (by nofun) (fun w1 hw => ?_)
  exact ⟨rfl, hw.below⟩

theorem c_each {w0 : World} {f1 f2 f3 st W H D : Nat} {a : Option Addr} {c : Nat} {vs : List V3} {g : FuncId} {cs : Array Value} {X : Type} {S : Nat → X → List Ent} {x0 : X} (hb3 : W ≤ 216 ∧ H ≤ 216 ∧ D ≤ 216) (hg : Known Try.prog g) (hF : ∀ (x y z : Nat) (s : X), x < W → y < H → z < D → Mut Try.prog g ([.int .i64 (x : Int), .int .i64 (y : Int), .int .i64 (z : Int)] ++ cs.toList.map cn) w0 (S (nd W H x y z) s) (fun _ : X => .tuple #[]) (fun s' => S (nd W H x y z + 1) s')) : Mut Try.prog 22 [.agg #[.float .f32 f1, .float .f32 f2, .float .f32 f3, .float .f32 st, .int .i64 (W : Int), .int .i64 (H : Int), .int .i64 (D : Int), .slice a vs.length c], .func (.func g) #[] cs] w0 (S 0 x0) (fun _ : X => .tuple #[]) (fun s => S (W * H * D) s) := by
  refine Mut.enter Try.func22 rfl Try.ntmps22 (Nat.le_of_ble_eq_true rfl) ?_
  intro F
  refine V.seq ?_
  refine V.region ?_
  refine VL.new1 (.inl rfl) rfl (by decide) (yn_box rfl rfl (.inr ⟨rfl, rfl⟩)) ?_
  intro b2
  refine VL.nil ?_
  refine VE.then_wp ?_
  refine V.seq ?_
  refine V.region ?_
  refine VL.r (.inl rfl) rfl (by decide) (yr_fieldAddr rfl Try.underlying35 rfl rfl sz2_Mesh (by decide) rfl) ?_
  refine VL.q (.inl rfl) rfl (by decide) (yq_load rfl fb2_Mesh rfl (by first | exact Sees.root (by assumption) | exact Sees.own (by repeat (first | exact List.mem_cons_self | exact List.mem_append_left _ (by assumption) | apply List.mem_cons_of_mem | apply List.mem_append_right)) | exact Sees.root (hR _ (by omega)) | exact Sees.own (RowsIn.mem (by repeat (first | exact RowsIn.here | exact RowsIn.last | apply RowsIn.there | apply RowsIn.thereS)) _ (by omega)) | exact Sees.own (WRowsIn.mem (by repeat (first | exact WRowsIn.here | exact WRowsIn.last | apply WRowsIn.there | apply WRowsIn.thereS)) _ (by omega))) rfl) ?_
  refine VL.r (.inl rfl) rfl (by decide) (yr_move (u := .int .i64 0) rfl rfl) ?_
  refine VL.nil ?_
  refine VE.then_wp ?_
  refine V.block ?_
  refine V.loopc (G := Nat × X) [(1, _), (2, _), (8, _)] (fun ⟨z, s⟩ => z ≤ D ∧ True) (fun ⟨z, s⟩ => (⟨some ⟨b2, 0, none⟩, [.float .f32 f1, .float .f32 f2, .float .f32 f3, .float .f32 st, .int .i64 (W : Int), .int .i64 (H : Int), .int .i64 (D : Int), .slice a vs.length c], 8, 35⟩ :: (F ++ S (nd W H 0 0 z) s))) (fun ⟨z, s⟩ => [(9, .int .i64 (z : Int))]) (fun ⟨z, s⟩ => D - z) (0, x0) (.cons rfl (.cons rfl (.cons rfl .nil))) (.cons rfl .nil) ?_ ?_ ?_
  · exact (fun w hw => hw)
  · exact (by exact ⟨by omega, trivial⟩)
  rintro ⟨z, s⟩ ⟨hz, _⟩
  show V _ _ _ (⟨some ⟨b2, 0, none⟩, [.float .f32 f1, .float .f32 f2, .float .f32 f3, .float .f32 st, .int .i64 (W : Int), .int .i64 (H : Int), .int .i64 (D : Int), .slice a vs.length c], 8, 35⟩ :: (F ++ S (nd W H 0 0 z) s)) ([(9, .int .i64 (z : Int))] ++ [(1, _), (2, _), (8, _)]) _ _
  refine V.seq ?_
  refine V.region ?_
  refine VL.r (.inl rfl) rfl (by decide) (yr_icmp rfl (.inr (.inr (.inl rfl))) rfl rfl) ?_
  refine VL.nil ?_
  refine VE.then_wp ?_
  refine V.seq ?_
  refine V.cond rfl (fun h1 => ?_) (fun h1 => ?_)
  · skip
    replace h1 := ic_lss h1
    refine V.skip ?_
    refine VE.then_wp ?_
    refine V.seq ?_
    refine V.block ?_
    refine V.seq ?_
    refine V.region ?_
    refine VL.r (.inl rfl) rfl (by decide) (yr_move rfl rfl) ?_
    refine VL.r (.inl rfl) rfl (by decide) (yr_assign rfl rfl) ?_
    refine VL.nil ?_
    refine VE.then_wp ?_
    refine V.seq ?_
    refine V.region ?_
    refine VL.r (.inl rfl) rfl (by decide) (yr_fieldAddr rfl Try.underlying35 rfl rfl sz2_Mesh (by decide) rfl) ?_
    refine VL.q (.inl rfl) rfl (by decide) (yq_load rfl fb2_Mesh rfl (by first | exact Sees.root (by assumption) | exact Sees.own (by repeat (first | exact List.mem_cons_self | exact List.mem_append_left _ (by assumption) | apply List.mem_cons_of_mem | apply List.mem_append_right)) | exact Sees.root (hR _ (by omega)) | exact Sees.own (RowsIn.mem (by repeat (first | exact RowsIn.here | exact RowsIn.last | apply RowsIn.there | apply RowsIn.thereS)) _ (by omega)) | exact Sees.own (WRowsIn.mem (by repeat (first | exact WRowsIn.here | exact WRowsIn.last | apply WRowsIn.there | apply WRowsIn.thereS)) _ (by omega))) rfl) ?_
    refine VL.r (.inl rfl) rfl (by decide) (yr_move (u := .int .i64 0) rfl rfl) ?_
    refine VL.nil ?_
    refine VE.then_wp ?_
    refine V.block ?_
    refine V.loopc (G := Nat × X) [(1, _), (2, _), (4, _), (8, _), (9, _), (13, _)] (fun ⟨y, s1⟩ => y ≤ H ∧ True) (fun ⟨y, s1⟩ => (⟨some ⟨b2, 0, none⟩, [.float .f32 f1, .float .f32 f2, .float .f32 f3, .float .f32 st, .int .i64 (W : Int), .int .i64 (H : Int), .int .i64 (D : Int), .slice a vs.length c], 8, 35⟩ :: (F ++ S (nd W H 0 y z) s1))) (fun ⟨y, s1⟩ => [(14, .int .i64 (y : Int))]) (fun ⟨y, s1⟩ => H - y) (0, s) (.cons rfl (.cons rfl (.cons rfl (.cons rfl (.cons rfl (.cons rfl .nil)))))) (.cons rfl .nil) ?_ ?_ ?_
    · exact (fun w hw => hw)
    · exact (by exact ⟨by omega, trivial⟩)
    rintro ⟨y, s1⟩ ⟨hy, _⟩
    show V _ _ _ (⟨some ⟨b2, 0, none⟩, [.float .f32 f1, .float .f32 f2, .float .f32 f3, .float .f32 st, .int .i64 (W : Int), .int .i64 (H : Int), .int .i64 (D : Int), .slice a vs.length c], 8, 35⟩ :: (F ++ S (nd W H 0 y z) s1)) ([(14, .int .i64 (y : Int))] ++ [(1, _), (2, _), (4, _), (8, _), (9, _), (13, _)]) _ _
    refine V.seq ?_
    refine V.region ?_
    refine VL.r (.inl rfl) rfl (by decide) (yr_icmp rfl (.inr (.inr (.inl rfl))) rfl rfl) ?_
    refine VL.nil ?_
    refine VE.then_wp ?_
    refine V.seq ?_
    refine V.cond rfl (fun h2 => ?_) (fun h2 => ?_)
    · skip
      replace h2 := ic_lss h2
      refine V.skip ?_
      refine VE.then_wp ?_
      refine V.seq ?_
      refine V.block ?_
      refine V.seq ?_
      refine V.region ?_
      refine VL.r (.inl rfl) rfl (by decide) (yr_move rfl rfl) ?_
      refine VL.r (.inl rfl) rfl (by decide) (yr_assign rfl rfl) ?_
      refine VL.nil ?_
      refine VE.then_wp ?_
      refine V.seq ?_
      refine V.region ?_
      refine VL.r (.inl rfl) rfl (by decide) (yr_fieldAddr rfl Try.underlying35 rfl rfl sz2_Mesh (by decide) rfl) ?_
      refine VL.q (.inl rfl) rfl (by decide) (yq_load rfl fb2_Mesh rfl (by first | exact Sees.root (by assumption) | exact Sees.own (by repeat (first | exact List.mem_cons_self | exact List.mem_append_left _ (by assumption) | apply List.mem_cons_of_mem | apply List.mem_append_right)) | exact Sees.root (hR _ (by omega)) | exact Sees.own (RowsIn.mem (by repeat (first | exact RowsIn.here | exact RowsIn.last | apply RowsIn.there | apply RowsIn.thereS)) _ (by omega)) | exact Sees.own (WRowsIn.mem (by repeat (first | exact WRowsIn.here | exact WRowsIn.last | apply WRowsIn.there | apply WRowsIn.thereS)) _ (by omega))) rfl) ?_
      refine VL.r (.inl rfl) rfl (by decide) (yr_move (u := .int .i64 0) rfl rfl) ?_
      refine VL.nil ?_
      refine VE.then_wp ?_
      refine V.block ?_
      refine V.loopc (G := Nat × X) [(1, _), (2, _), (4, _), (5, _), (8, _), (9, _), (13, _), (14, _), (18, _)] (fun ⟨x, s2⟩ => x ≤ W ∧ True) (fun ⟨x, s2⟩ => (⟨some ⟨b2, 0, none⟩, [.float .f32 f1, .float .f32 f2, .float .f32 f3, .float .f32 st, .int .i64 (W : Int), .int .i64 (H : Int), .int .i64 (D : Int), .slice a vs.length c], 8, 35⟩ :: (F ++ S (nd W H x y z) s2))) (fun ⟨x, s2⟩ => [(19, .int .i64 (x : Int))]) (fun ⟨x, s2⟩ => W - x) (0, s1) (.cons rfl (.cons rfl (.cons rfl (.cons rfl (.cons rfl (.cons rfl (.cons rfl (.cons rfl (.cons rfl .nil))))))))) (.cons rfl .nil) ?_ ?_ ?_
      · exact (fun w hw => hw)
      · exact (by exact ⟨by omega, trivial⟩)
      rintro ⟨x, s2⟩ ⟨hx, _⟩
      show V _ _ _ (⟨some ⟨b2, 0, none⟩, [.float .f32 f1, .float .f32 f2, .float .f32 f3, .float .f32 st, .int .i64 (W : Int), .int .i64 (H : Int), .int .i64 (D : Int), .slice a vs.length c], 8, 35⟩ :: (F ++ S (nd W H x y z) s2)) ([(19, .int .i64 (x : Int))] ++ [(1, _), (2, _), (4, _), (5, _), (8, _), (9, _), (13, _), (14, _), (18, _)]) _ _
      refine V.seq ?_
      refine V.region ?_
      refine VL.r (.inl rfl) rfl (by decide) (yr_icmp rfl (.inr (.inr (.inl rfl))) rfl rfl) ?_
      refine VL.nil ?_
      refine VE.then_wp ?_
      refine V.seq ?_
      refine V.cond rfl (fun h3 => ?_) (fun h3 => ?_)
      · skip
        replace h3 := ic_lss h3
        refine V.skip ?_
        refine VE.then_wp ?_
        refine V.seq ?_
        refine V.block ?_
        refine V.seq ?_
        refine V.region ?_
        refine VL.r (.inl rfl) rfl (by decide) (yr_move rfl rfl) ?_
        refine VL.r (.inl rfl) rfl (by decide) (yr_assign rfl rfl) ?_
        refine VL.nil ?_
        refine VE.then_wp ?_
        refine V.region ?_
        refine VL.r (.inl rfl) rfl (by decide) (yr_move rfl rfl) ?_
        refine VL.r (.inl rfl) rfl (by decide) (yr_move rfl rfl) ?_
        refine VL.r (.inl rfl) rfl (by decide) (yr_move rfl rfl) ?_
        refine VL.r (.inl rfl) rfl (by decide) (yr_move rfl rfl) ?_
        refine VL.c (.inl rfl) rfl (by decide) (yc_callP (M' := fun s' => S (nd W H x y z + 1) s') rfl hg rfl (.cons rfl (.cons rfl (.cons rfl .nil))) (Pick.take (Rem.there (Rem.thereS Rem.all)) .nil) (by rw [List.append_nil]; exact hF x y z s2 (by omega) (by omega) (by omega))) ?_
        intro s3
        refine VL.nil ?_
        refine VE.block_normal ?_
        refine VE.then_wp ?_
        refine V.region ?_
        refine VL.r (.inl rfl) rfl (by decide) (yr_int rfl rfl rfl (.inl ⟨rfl, wrap_in (by omega)⟩)) ?_
        refine VL.r (.inl rfl) rfl (by decide) (yr_move rfl rfl) ?_
        refine VL.nil ?_
        refine VE.round (x + 1, s3) ?_ ?_ ?_ ?_ ?_
        · exact (.cons rfl .nil)
        · exact (.cons rfl (.cons rfl (.cons rfl (.cons rfl (.cons rfl (.cons rfl (.cons rfl (.cons rfl (.cons rfl .nil)))))))))
        · exact (fun w hw => by dsimp only; rw [show nd W H (x + 1) y z = nd W H x y z + 1 from by unfold nd; omega]; exact hw.rot)
        · exact ⟨by omega, trivial⟩
        · (try dsimp only); omega
      · skip
        replace h3 := ic_lss' h3
        refine V.exit ?_
        refine VE.then_exit ?_
        refine VE.then_exit ?_
        refine VE.block_here ?_
        refine VE.block_normal ?_
        refine VE.then_wp ?_
        refine V.region ?_
        refine VL.r (.inl rfl) rfl (by decide) (yr_int rfl rfl rfl (.inl ⟨rfl, wrap_in (by omega)⟩)) ?_
        refine VL.r (.inl rfl) rfl (by decide) (yr_move rfl rfl) ?_
        refine VL.nil ?_
        refine VE.round (y + 1, s2) ?_ ?_ ?_ ?_ ?_
        · exact (.cons rfl .nil)
        · exact (.cons rfl (.cons rfl (.cons rfl (.cons rfl (.cons rfl (.cons rfl .nil))))))
        · exact (fun w hw => by (obtain rfl : x = W := by omega); dsimp only; rw [show nd x H 0 (y + 1) z = nd x H x y z from by unfold nd; rw [Nat.zero_add, nd_end]]; exact hw)
        · exact ⟨by omega, trivial⟩
        · (try dsimp only); omega
    · skip
      replace h2 := ic_lss' h2
      refine V.exit ?_
      refine VE.then_exit ?_
      refine VE.then_exit ?_
      refine VE.block_here ?_
      refine VE.block_normal ?_
      refine VE.then_wp ?_
      refine V.region ?_
      refine VL.r (.inl rfl) rfl (by decide) (yr_int rfl rfl rfl (.inl ⟨rfl, wrap_in (by omega)⟩)) ?_
      refine VL.r (.inl rfl) rfl (by decide) (yr_move rfl rfl) ?_
      refine VL.nil ?_
      refine VE.round (z + 1, s1) ?_ ?_ ?_ ?_ ?_
      · exact (.cons rfl .nil)
      · exact (.cons rfl (.cons rfl (.cons rfl .nil)))
      · exact (fun w hw => by (obtain rfl : y = H := by omega); dsimp only; rw [show nd W y 0 0 (z + 1) = nd W y 0 y z from by unfold nd; rw [← nd_endy]]; exact hw)
      · exact ⟨by omega, trivial⟩
      · (try dsimp only); omega
  · skip
    replace h1 := ic_lss' h1
    refine V.exit ?_
    refine VE.then_exit ?_
    refine VE.then_exit ?_
    refine VE.block_here ?_
    refine VE.fall ?_
    refine ret0 rfl (fun w1 hw => ?_)
    obtain rfl : z = D := by omega
    have h8 := hw.sub (List.sublist_cons_self _ _)
    rw [show nd W H 0 0 z = W * H * z from by unfold nd; rw [Nat.zero_add, nd_all]] at h8
    exact ⟨s, rfl, h8⟩

end Go.Proofs.Ytfeciemlhiclbaa


namespace Go.Proofs.Ytfeciemlhiclbaa
open Go.RowKit
set_option linter.unusedVariables false
set_option linter.unusedSimpArgs false
set_option maxRecDepth 20000

attribute [local irreducible] fop fcmp fconv sqrt32 fneg segF fieldS fieldI List.getD


end Go.Proofs.Ytfeciemlhiclbaa


namespace Go.Proofs.Ytfeciemlhiclbaa
open Go.RowKit

/-! ### alike but for the sign of a zero -/
theorem signed0 (s : Bool) (k : Nat) : Ieee.signed s 0 k = 0 := by cases s <;> simp [Ieee.signed]
def zw0 (a : Nat) : Prop := a = 0 ∨ a = 2147483648
def zq (a b : Nat) : Prop := a = b ∨ (zw0 a ∧ zw0 b)
theorem zq.refl (a : Nat) : zq a a := .inl rfl
def zq3 (a b : V3) : Prop := zq a.1 b.1 ∧ zq a.2.1 b.2.1 ∧ zq a.2.2 b.2.2
theorem zq3.refl (a : V3) : zq3 a a := ⟨.refl _, .refl _, .refl _⟩
/-! ### floors -/
def ffl (x : Nat) : Nat := match FloatKind.f64.decode x with | .nan _ _ => qn .f64 | d => FloatKind.f64.encode (d.integral .down)
theorem ext_floor {P : Program} (vs : Array Value) (w : World) {x : Nat} (h : vs.toList.map cn = [.float .f64 x]) : ∃ v w', (Extern.MathFloor.toIntegral "math.archFloor" .down vs).run P w = .ok v w' ∧ cn v = .float .f64 (ffl x) ∧ Below w.heap.size w w' := by
  obtain ⟨b, rfl, rfl⟩ := one_arg h
  cases hn : fnan .f64 b
  · have hd : (FloatKind.f64.decode b).isNaN = false := hn
    have hr : ffl (cb .f64 b) = FloatKind.f64.encode ((FloatKind.f64.decode b).integral .down) := by
      unfold ffl
      rw [show FloatKind.f64.decode (cb .f64 b) = FloatKind.f64.decode b from read_cb hn]
      generalize FloatKind.f64.decode b = dd at hd ⊢
      cases dd <;> first | rfl | simp [Ieee.Datum.isNaN] at hd
    refine ⟨.float .f64 (FloatKind.f64.encode ((FloatKind.f64.decode b).integral .down)), w, ?_, ?_, Below.refl _ _⟩
    · rw [toIntegral_eq]
      generalize FloatKind.f64.decode b = dd at hd ⊢
      cases dd <;> first | rfl | simp [Ieee.Datum.isNaN] at hd
    · simp only [cn, cn1, cn0]
      rw [cb_of_num (k := .f64) (b := FloatKind.f64.encode ((FloatKind.f64.decode b).integral .down)) (write_num Ieee.double (integral_num hd .down)) (encode_lt _ _), hr]
  · obtain ⟨sg, fr, hr⟩ := read_nan hn
    have hd : FloatKind.f64.decode b = .nan sg fr := hr
    have hq : ffl (cb .f64 b) = qn .f64 := by
      obtain ⟨s', f', hr'⟩ := read_nan (k := .f64) (b := cb .f64 b) (by rw [fnan_cb, hn])
      unfold ffl FloatKind.decode
      rw [hr']
    rw [hq]
    rw [toIntegral_eq, hd]
    by_cases hk : FloatKind.f64.format.quiet fr = fr
    · exact ⟨.float .f64 b, w, by simp [hk], by simp [cn, cn1, cn0, cb_of_nan hn], Below.refl _ _⟩
    · simp only [hk, if_false]
      have henc : fnan .f64 (FloatKind.f64.encode (.nan sg (FloatKind.f64.format.quiet fr))) = true := ext_round.quiet_nan sg fr b hd
      refine ⟨_, { w with drawn := w.drawn + 1 }, by simp [choose, Sem.run, Question.forced]; rfl, ?_, below_drew _ _⟩
      simp only [cn, cn1, cn0]
      split
      · rw [cb_of_nan hn]
      · rw [cb_of_nan henc]

/-! ### the node before a place -/
def kOk (k : Nat) : Bool := match FloatKind.f64.decode (FloatKind.f64.nearest (k : Int)) with
  | .number s m e => !s && decide (-1074 ≤ e) && decide (e ≤ 0) && m == k * 2 ^ (-e).toNat
  | _ => false
theorem kOk_all : ∀ k : Fin 215, kOk k = true := by decide +kernel
theorem kOk_is {k : Nat} (hk : k ≤ 214) : ∃ m e, FloatKind.f64.decode (FloatKind.f64.nearest (k : Int)) = .number false m e ∧ -1074 ≤ e ∧ e ≤ 0 ∧ m = k * 2 ^ (-e).toNat := by
  have h := kOk_all ⟨k, by omega⟩
  unfold kOk at h
  simp only at h
  generalize FloatKind.f64.decode (FloatKind.f64.nearest (k : Int)) = d at h ⊢
  cases d with
  | nan => cases h
  | infinity => cases h
  | number s m e =>
    simp only [Bool.and_eq_true, Bool.not_eq_true', decide_eq_true_eq, beq_iff_eq] at h
    obtain ⟨⟨⟨rfl, h2⟩, h3⟩, h4⟩ := h
    exact ⟨m, e, rfl, h2, h3, h4⟩
theorem cutz_le (s : Bool) (n d : Nat) : Ieee.Toward.zero.cut s n d ≤ n / 2 ^ d := by
  unfold Ieee.Toward.cut
  simp only [Bool.toNat_false, Nat.add_zero, Nat.shiftLeft_eq, Nat.one_mul]
  by_cases h : d ≤ n.log2 + 2
  · rw [Nat.min_eq_left h]; exact Nat.le_refl _
  · rw [Nat.min_eq_right (by omega)]
    have : n / 2 ^ (n.log2 + 2) = 0 := Nat.div_eq_of_lt (Nat.lt_of_lt_of_le Nat.lt_log2_self (Nat.pow_le_pow_right (by decide) (by omega)))
    rw [this]; exact Nat.zero_le _
theorem icompare_gt {x y : Int} (h : compare x y ≠ .gt) : x ≤ y := by
  by_cases hxy : x ≤ y
  · exact hxy
  · exfalso
    apply h
    show compareOfLessAndEq x y = .gt
    unfold compareOfLessAndEq
    rw [if_neg (by omega), if_neg (by omega)]
theorem icompare_lt {x y : Int} (h : compare x y ≠ .lt) : y ≤ x := by
  by_cases hxy : y ≤ x
  · exact hxy
  · exfalso
    apply h
    show compareOfLessAndEq x y = .lt
    unfold compareOfLessAndEq
    rw [if_pos (by omega)]
theorem num_cell {x k : Nat} (hk : k ≤ 214) (h1 : fcmp .geq .f64 x 0 = true) (h2 : fcmp .gtr .f64 x (FloatKind.f64.nearest (k : Int)) = false) :
    ∃ i : Nat, i ≤ k ∧ floatToIntVal .f64 x .i64 = some (i : Int) ∧ fover .f64 .f32 x = false := by
  obtain ⟨mk, ek, hK, he1, he2, hmk⟩ := kOk_is hk
  have hz : Ieee.double.read 0 = .number false 0 (-1074) := by decide
  have hg : ((Ieee.double.read x).order (Ieee.double.read 0) == some .gt || (Ieee.double.read x).order (Ieee.double.read 0) == some .eq) = true := h1
  have hn : ((Ieee.double.read x).order (Ieee.double.read (FloatKind.f64.nearest (k : Int))) == some .gt) = false := h2
  rw [hz] at hg
  rw [show Ieee.double.read (FloatKind.f64.nearest (k : Int)) = .number false mk ek from hK] at hn
  cases hx : Ieee.double.read x with
  | nan => rw [hx] at hg; simp [Ieee.Datum.order] at hg
  | infinity s =>
    rw [hx] at hg hn
    cases s <;> simp [Ieee.Datum.order] at hg hn
  | number s m e =>
    have hx' : FloatKind.f64.decode x = .number s m e := hx
    obtain ⟨b1, b2, b3, b4⟩ := decode_double_bound hx'
    rw [hx] at hg hn
    simp only [Ieee.Datum.order, signed0] at hg hn
    have hpos : 0 ≤ Ieee.signed s m (e - min e (-1074)).toNat := by
      refine icompare_lt ?_
      intro hc
      rw [hc] at hg
      simp at hg
    have hle : Ieee.signed s m (e - min e ek).toNat ≤ Ieee.signed false mk (ek - min e ek).toNat := by
      refine icompare_gt ?_
      intro hc
      rw [hc] at hn
      simp at hn
    have hsm : s = false ∨ m = 0 := by
      cases s
      · exact .inl rfl
      · right
        unfold Ieee.signed at hpos
        simp only [if_true, shl_eq] at hpos
        rcases Nat.eq_zero_or_pos m with h | h
        · exact h
        · exfalso
          have := Nat.mul_pos h (pow_pos' ((e - min e (-1074)).toNat))
          omega
    have hsig : ∀ u, Ieee.signed s m u = ((m <<< u : Nat) : Int) := by
      intro u
      rcases hsm with rfl | rfl
      · rfl
      · rw [signed0]; simp
    rw [hsig] at hle
    have hle' : m * 2 ^ (e - min e ek).toNat ≤ mk * 2 ^ (ek - min e ek).toNat := by
      have : ((m <<< (e - min e ek).toNat : Nat) : Int) ≤ ((mk <<< (ek - min e ek).toNat : Nat) : Int) := hle
      rw [shl_eq, shl_eq] at this
      exact_mod_cast this
    -- m * 2 ^ e ≤ k
    have hval : (e ≤ 0 → m ≤ k * 2 ^ (-e).toNat) ∧ (0 < e → m * 2 ^ e.toNat ≤ k) := by
      rcases Int.le_total e ek with hee | hee
      · have e1 : (e - min e ek).toNat = 0 := by omega
        rw [e1, Nat.pow_zero, Nat.mul_one, hmk, Nat.mul_assoc, ← Nat.pow_add, show (-ek).toNat + (ek - min e ek).toNat = (-e).toNat by omega] at hle'
        exact ⟨fun _ => hle', fun h => by omega⟩
      · have e1 : (ek - min e ek).toNat = 0 := by omega
        rw [e1, Nat.pow_zero, Nat.mul_one, hmk] at hle'
        constructor
        · intro h
          have e2 : (-ek).toNat = (-e).toNat + (e - min e ek).toNat := by omega
          rw [e2, Nat.pow_add, ← Nat.mul_assoc] at hle'
          exact Nat.le_of_mul_le_mul_right hle' (pow_pos' _)
        · intro h
          have e2 : (e - min e ek).toNat = e.toNat + (-ek).toNat := by omega
          rw [e2, Nat.pow_add, ← Nat.mul_assoc] at hle'
          exact Nat.le_of_mul_le_mul_right hle' (pow_pos' _)
    have hcut : Ieee.Toward.zero.cut s (m <<< e.toNat) (-e).toNat ≤ k := by
      refine Nat.le_trans (cutz_le _ _ _) ?_
      rw [shl_eq]
      rcases Int.le_total e 0 with h | h
      · rw [show e.toNat = 0 by omega, Nat.pow_zero, Nat.mul_one]
        exact Nat.div_le_of_le_mul (by rw [Nat.mul_comm]; exact hval.1 h)
      · rcases Int.le_iff_lt_or_eq.1 h with h' | h'
        · rw [show (-e).toNat = 0 by omega, Nat.pow_zero, Nat.div_one]; exact hval.2 h'
        · rw [← h'] at hval ⊢
          simpa using hval.1 (Int.le_refl _)
    refine ⟨Ieee.Toward.zero.cut s (m <<< e.toNat) (-e).toNat, hcut, ?_, ?_⟩
    · unfold floatToIntVal
      rw [hx']
      simp only [Ieee.Datum.toInt, Ieee.Datum.integral]
      have hs0 : Ieee.signed s (Ieee.Toward.zero.cut s (m <<< e.toNat) (-e).toNat) 0 = ((Ieee.Toward.zero.cut s (m <<< e.toNat) (-e).toNat : Nat) : Int) := by
        rcases hsm with rfl | rfl
        · simp [Ieee.signed]
        · have h0 : Ieee.Toward.zero.cut s (0 <<< e.toNat) (-e).toNat = 0 := Nat.le_zero.1 (Nat.le_trans (cutz_le _ _ _) (by simp))
          rw [h0, signed0]; rfl
      rw [hs0, if_pos]
      have hmin : IntKind.i64.min = -9223372036854775808 := by decide
      have hmax : IntKind.i64.max = 9223372036854775807 := by decide
      rw [hmin, hmax]
      omega
    · refine fover_small hx' ?_
      rcases Nat.eq_zero_or_pos m with h0 | h0
      · subst h0
        have : e = -1074 := by
          rcases b3 with h | h
          · exact h
          · omega
        rw [this]; decide
      · have hlog := Nat.log2_self_le (n := m) (by omega)
        rcases Int.le_total e 0 with h | h
        · have h3 := hval.1 h
          have h4 : 2 ^ m.log2 ≤ 256 * 2 ^ (-e).toNat := Nat.le_trans hlog (Nat.le_trans h3 (Nat.mul_le_mul_right _ (by omega)))
          rw [show (256 : Nat) = 2 ^ 8 from rfl, ← Nat.pow_add] at h4
          have := (Nat.pow_le_pow_iff_right (a := 2) (by decide)).1 h4
          omega
        · have h3 : m * 2 ^ e.toNat ≤ k := by
            rcases Int.le_iff_lt_or_eq.1 h with h' | h'
            · exact hval.2 h'
            · rw [← h'] at hval ⊢; simpa using hval.1 (Int.le_refl _)
          have h4 : 2 ^ (m.log2 + e.toNat) ≤ 2 ^ 8 := by
            rw [Nat.pow_add]
            exact Nat.le_trans (Nat.mul_le_mul_right _ hlog) (Nat.le_trans h3 (by omega))
          have := (Nat.pow_le_pow_iff_right (a := 2) (by decide)).1 h4
          omega

/-- The number before a coordinate: as the program makes it, as the reference makes it. -/
def kN (n : Int) : Nat := FloatKind.f64.nearest (n - 2)
def clampK (n : Int) (x : Nat) : Nat := if fcmp .gtr .f64 x (kN n) then kN n else x
def clI (u : Nat) (n : Int) : Nat := clampK n (if fcmp .geq .f64 (ffl (up u)) 0 then ffl (up u) else 0)
def clS (u : Nat) (n : Int) : Nat := clampK n (if fcmp .gtr .f64 (ffl (up u)) 0 then ffl (up u) else 0)
def cix (x : Nat) : Nat := ((floatToIntVal .f64 x .i64).getD 0).toNat
def celI (u : Nat) (n : Int) : Nat × Nat := if n = 1 then (0, 0) else (cix (clI u n), fop .sub .f32 u (fconv .f64 .f32 (clI u n)))
def celS (u : Nat) (n : Int) : Nat × Nat := if n = 1 then (0, 0) else (cix (clS u n), fop .sub .f32 u (fconv .f64 .f32 (clS u n)))
theorem zero_cells : ∀ k : Fin 215, (fcmp .gtr .f64 0 (FloatKind.f64.nearest (k.val : Int)) || fcmp .gtr .f64 9223372036854775808 (FloatKind.f64.nearest (k.val : Int)) || !fcmp .geq .f64 (FloatKind.f64.nearest (k.val : Int)) 0 || fcmp .gtr .f64 (FloatKind.f64.nearest (k.val : Int)) (FloatKind.f64.nearest (k.val : Int))) = false := by decide +kernel
theorem kN_facts {n : Int} (h : 2 ≤ n ∧ n ≤ 216) : fcmp .gtr .f64 0 (kN n) = false ∧ fcmp .gtr .f64 9223372036854775808 (kN n) = false ∧ fcmp .geq .f64 (kN n) 0 = true ∧ fcmp .gtr .f64 (kN n) (kN n) = false := by
  have h1 := zero_cells ⟨(n - 2).toNat, by omega⟩
  have e : (((n - 2).toNat : Nat) : Int) = n - 2 := by omega
  simp only at h1
  rw [e] at h1
  simp only [Bool.or_eq_false_iff, Bool.not_eq_false'] at h1
  exact ⟨h1.1.1.1, h1.1.1.2, h1.1.2, h1.2⟩
theorem clamp_ok {n : Int} {x : Nat} (h : 2 ≤ n ∧ n ≤ 216) (hx : fcmp .geq .f64 x 0 = true) : ∃ i : Nat, (i : Int) ≤ n - 2 ∧ floatToIntVal .f64 (clampK n x) .i64 = some (i : Int) ∧ fover .f64 .f32 (clampK n x) = false := by
  have e : (((n - 2).toNat : Nat) : Int) = n - 2 := by omega
  obtain ⟨k1, k2, k3, k4⟩ := kN_facts h
  have key : ∀ y, fcmp .geq .f64 y 0 = true → fcmp .gtr .f64 y (kN n) = false → ∃ i : Nat, (i : Int) ≤ n - 2 ∧ floatToIntVal .f64 y .i64 = some (i : Int) ∧ fover .f64 .f32 y = false := by
    intro y h1 h2
    obtain ⟨i, g1, g2, g3⟩ := num_cell (x := y) (k := (n - 2).toNat) (by omega) h1 (by rw [e]; exact h2)
    exact ⟨i, by omega, g2, g3⟩
  unfold clampK
  cases hg : fcmp .gtr .f64 x (kN n)
  · exact key x hx hg
  · exact key (kN n) k3 k4
theorem geq0 : fcmp .geq .f64 0 0 = true := by decide
theorem clI_ok {u : Nat} {n : Int} (h : 2 ≤ n ∧ n ≤ 216) : ∃ i : Nat, (i : Int) ≤ n - 2 ∧ floatToIntVal .f64 (clI u n) .i64 = some (i : Int) ∧ fover .f64 .f32 (clI u n) = false := by
  unfold clI
  refine clamp_ok h ?_
  cases hg : fcmp .geq .f64 (ffl (up u)) 0
  · exact geq0
  · exact hg
theorem cel_lt (u : Nat) {n : Int} (h : 1 ≤ n ∧ n ≤ 216) : (n = 1 → (celI u n).1 = 0) ∧ (n ≠ 1 → ((celI u n).1 : Int) + 1 < n) := by
  unfold celI
  constructor
  · intro h1; rw [if_pos h1]
  · intro h1
    rw [if_neg h1]
    obtain ⟨i, g1, g2, _⟩ := clI_ok (u := u) (n := n) (by omega)
    unfold cix
    rw [g2]
    simp only [Option.getD_some, Int.toNat_natCast]
    omega
/-! ### the value between nodes -/
def rowV (vs : List V3) (W H : Nat) (c : Nat × Nat) (y z : Nat) : V3 := if W = 1 then mval vs W H c.1 y z else between3 (mval vs W H c.1 y z) (mval vs W H (c.1 + 1) y z) c.2
def colV (vs : List V3) (W H : Nat) (c d : Nat × Nat) (z : Nat) : V3 := if H = 1 then rowV vs W H c d.1 z else between3 (rowV vs W H c d.1 z) (rowV vs W H c (d.1 + 1) z) d.2
def valV (vs : List V3) (W H D : Nat) (c d e : Nat × Nat) : V3 := if D = 1 then colV vs W H c d e.1 else between3 (colV vs W H c d e.1) (colV vs W H c d (e.1 + 1)) e.2
def crd (p f st : Nat) : Nat := fop .quo .f32 (fop .sub .f32 p f) st
def valI (vs : List V3) (f : V3) (st W H D : Nat) (p : V3) : V3 := valV vs W H D (celI (crd p.1 f.1 st) W) (celI (crd p.2.1 f.2.1 st) H) (celI (crd p.2.2 f.2.2 st) D)
def valS (vs : List V3) (f : V3) (st W H D : Nat) (p : V3) : V3 := valV vs W H D (celS (crd p.1 f.1 st) W) (celS (crd p.2.1 f.2.1 st) H) (celS (crd p.2.2 f.2.2 st) D)
section
variable {vs : List V3} {W H D y z : Nat} {c c' d d' e e' : Nat × Nat}
end
/-! ### what has no number has no distance -/
/-! ### the worst -/
def hvN (n : Nat) : Nat := if n = 1 then 1 else n - 1
def mid (n x : Nat) : Nat := if n = 1 then 0 else fop .add .f32 (FloatKind.f32.nearest (x : Int)) 1056964608
def hv (n : Nat) : List Nat := (List.range (hvN n)).map (mid n)
theorem hv_length (n : Nat) : (hv n).length = hvN n := by simp [hv]
theorem hv_get {n x : Nat} (h : x < hvN n) : (hv n).getD x 0 = mid n x := by simp [hv, h]
def act (n x : Nat) : Bool := decide (n = 1 ∨ x + 1 < n)
theorem act_lt {n x : Nat} (h : x < hvN n) : act n x = true ∧ (1 ≤ n → x < n) := by
  unfold hvN at h
  unfold act
  refine ⟨decide_eq_true ?_, ?_⟩
  · split at h <;> omega
  · split at h <;> omega
def wdist (ws : List Wr) (vs : List V3) (f : V3) (st W H D : Nat) (p : V3) : Nat := long3 (sub3 (valI vs f st W H D p) (fieldI ws p))
def wbN (ws : List Wr) (vs : List V3) (f : V3) (st W H D s : Nat) (p : V3) : Nat := if fin3 p && fcmp .gtr .f32 (wdist ws vs f st W H D p) s then wdist ws vs f st W H D p else s
def mplc (f : V3) (st W H D k : Nat) : V3 := place3 f st (mid W (k % W)) (mid H (k / W % H)) (mid D (k / W / H))
def actK (W H D k : Nat) : Bool := act W (k % W) && act H (k / W % H) && act D (k / W / H)
def wbU (ws : List Wr) (vs : List V3) (f : V3) (st W H D : Nat) : Nat → Nat
  | 0 => 0
  | k + 1 => if actK W H D k then wbN ws vs f st W H D (wbU ws vs f st W H D k) (mplc f st W H D k) else wbU ws vs f st W H D k
section
variable {ws : List Wr} {vs : List V3} {f p : V3} {st W H D x y z k a b s : Nat}
theorem wbN_yes (h : fin3 p = true) (h2 : fcmp .gtr .f32 (wdist ws vs f st W H D p) s = true) : wbN ws vs f st W H D s p = wdist ws vs f st W H D p := by unfold wbN; rw [h, h2]; rfl
theorem wbN_no1 (h : fin3 p = false) : wbN ws vs f st W H D s p = s := by unfold wbN; rw [h]; rfl
theorem wbN_no2 (h2 : fcmp .gtr .f32 (wdist ws vs f st W H D p) s = false) : wbN ws vs f st W H D s p = s := by unfold wbN; rw [h2, Bool.and_false]; rfl
theorem wbU_in (hx : x < hvN W) (hy : y < hvN H) (hz : z < hvN D) (hW : 1 ≤ W) (hH : 1 ≤ H) : wbU ws vs f st W H D (nd W H x y z + 1) = wbN ws vs f st W H D (wbU ws vs f st W H D (nd W H x y z)) (place3 f st (mid W x) (mid H y) (mid D z)) := by
  obtain ⟨ax, bx⟩ := act_lt hx
  obtain ⟨ay, yb⟩ := act_lt hy
  obtain ⟨az, _⟩ := act_lt hz
  rw [wbU, if_pos (by unfold actK; rw [nd_x (bx hW), nd_y (bx hW) (yb hH), nd_z (bx hW) (yb hH), ax, ay, az]; rfl)]
  unfold mplc
  rw [nd_x (bx hW), nd_y (bx hW) (yb hH), nd_z (bx hW) (yb hH)]
theorem wbU_skip : ∀ (d : Nat), (∀ j, a ≤ j → j < a + d → actK W H D j = false) → wbU ws vs f st W H D (a + d) = wbU ws vs f st W H D a
  | 0, _ => rfl
  | d + 1, h => by
    rw [← Nat.add_assoc, wbU, if_neg (by rw [h (a + d) (by omega) (by omega)]; decide)]
    exact wbU_skip d fun j h1 h2 => h j h1 (by omega)
theorem wbU_skip' (hab : a ≤ b) (h : ∀ j, a ≤ j → j < b → actK W H D j = false) : wbU ws vs f st W H D b = wbU ws vs f st W H D a := by
  obtain ⟨d, rfl⟩ : ∃ d, b = a + d := ⟨b - a, by omega⟩
  exact wbU_skip d h
theorem act_no {n x : Nat} (h : n ≠ 1 ∧ n ≤ x + 1) : act n x = false := by unfold act; rw [decide_eq_false_iff_not]; omega
theorem wbU_xn (hW : 1 ≤ W) : wbU ws vs f st W H D (nd W H 0 (y + 1) z) = wbU ws vs f st W H D (nd W H (hvN W) y z) := by
  have e : nd W H 0 (y + 1) z = W + W * (y + H * z) := by unfold nd; rw [Nat.zero_add, nd_end]
  rw [e]; unfold nd hvN
  by_cases h1 : W = 1
  · rw [if_pos h1, h1]
  · rw [if_neg h1]
    refine wbU_skip' (by omega) fun j h2 h3 => ?_
    obtain rfl : j = (W - 1) + W * (y + H * z) := by omega
    unfold actK
    rw [(nd_div (by omega) _).2, act_no (by omega)]; rfl
theorem wbU_yn (hH : 1 ≤ H) : wbU ws vs f st W H D (nd W H 0 0 (z + 1)) = wbU ws vs f st W H D (nd W H 0 (hvN H) z) := by
  have e : nd W H 0 0 (z + 1) = W * (H + H * z) := by unfold nd; rw [Nat.zero_add, nd_endy]
  rw [e]; unfold nd hvN
  rw [Nat.zero_add]
  by_cases h1 : H = 1
  · rw [if_pos h1, h1]
  · rw [if_neg h1]
    have e2 : W * (H + H * z) = W * ((H - 1) + H * z) + W := by
      rw [show H + H * z = ((H - 1) + H * z) + 1 by omega, Nat.mul_succ]
    refine wbU_skip' (by omega) fun j h2 h3 => ?_
    unfold actK
    rw [nd_row (y := (H - 1) + H * z) h2 (by rw [Nat.mul_succ]; omega), (nd_div (by omega) z).2, act_no (n := H) (x := H - 1) (by omega), Bool.and_false]; rfl
theorem wbU_zn (hW : 1 ≤ W) (hH : 1 ≤ H) : wbU ws vs f st W H D (W * H * D) = wbU ws vs f st W H D (nd W H 0 0 (hvN D)) := by
  have e : nd W H 0 0 (hvN D) = W * H * hvN D := by unfold nd; rw [Nat.zero_add, Nat.zero_add, Nat.mul_assoc]
  rw [e]; unfold hvN
  by_cases h1 : D = 1
  · rw [if_pos h1, h1]
  · rw [if_neg h1]
    refine wbU_skip' (Nat.mul_le_mul_left _ (by omega)) fun j h2 h3 => ?_
    have hp : 0 < W * H := Nat.mul_pos hW hH
    have h4 : D - 1 ≤ j / W / H := by rw [Nat.div_div_eq_div_mul, Nat.le_div_iff_mul_le hp, Nat.mul_comm]; exact h2
    unfold actK
    rw [act_no (n := D) (x := j / W / H) (by omega), Bool.and_false]
end
def wbL (ws : List Wr) (vs : List V3) (f : V3) (st : Nat) (wi hi de : Int) : Nat := wbU ws vs f st wi.toNat hi.toNat de.toNat (wi.toNat * hi.toNat * de.toNat)
def wbOk (ws : List Wr) (vs : List V3) (f : V3) (st : Nat) (wi hi de : Int) : Bool := wiresOk ws && meshOk f st wi hi de vs.length && fin (wbL ws vs f st wi hi de)
def wbD (ws : List Wr) (vs : List V3) (f : V3) (st : Nat) (wi hi de : Int) : Nat := if wbOk ws vs f st wi hi de then wbL ws vs f st wi hi de else 0
section
variable {ws : List Wr} {vs : List V3} {f : V3} {st : Nat} {wi hi de : Int}
theorem wb_yes (h1 : wiresOk ws = true) (h2 : meshOk f st wi hi de vs.length = true) (h3 : fin (wbL ws vs f st wi hi de) = true) : wbOk ws vs f st wi hi de = true := by unfold wbOk; rw [h1, h2, h3]; rfl
theorem wb_no1 (h : wiresOk ws = false) : wbOk ws vs f st wi hi de = false := by unfold wbOk; rw [h]; rfl
theorem wb_no2 (h : meshOk f st wi hi de vs.length = false) : wbOk ws vs f st wi hi de = false := by unfold wbOk; rw [h, Bool.and_false]; rfl
theorem wb_no3 (h : fin (wbL ws vs f st wi hi de) = false) : wbOk ws vs f st wi hi de = false := by unfold wbOk; rw [h, Bool.and_false]
theorem wbD_yes (h : wbOk ws vs f st wi hi de = true) : wbD ws vs f st wi hi de = wbL ws vs f st wi hi de := by unfold wbD; rw [h]; rfl
theorem wbD_no (h : wbOk ws vs f st wi hi de = false) : wbD ws vs f st wi hi de = 0 := by unfold wbD; rw [h]; rfl
end
/-! ### words for the walks -/
section
variable {u : Nat} {n : Int} {X i : Nat}
theorem clI_a (h1 : fcmp .geq .f64 (ffl (up u)) 0 = true) (h2 : fcmp .gtr .f64 (ffl (up u)) (FloatKind.f64.nearest (n - 2)) = true) : clI u n = FloatKind.f64.nearest (n - 2) := by unfold clI clampK kN; simp only [h1, h2, if_true]
theorem clI_b (h1 : fcmp .geq .f64 (ffl (up u)) 0 = true) (h2 : fcmp .gtr .f64 (ffl (up u)) (FloatKind.f64.nearest (n - 2)) = false) : clI u n = ffl (up u) := by unfold clI clampK kN; simp only [h1, h2, if_true, if_false, Bool.false_eq_true]
theorem clI_c (h1 : fcmp .geq .f64 (ffl (up u)) 0 = false) (h2 : fcmp .gtr .f64 0 (FloatKind.f64.nearest (n - 2)) = true) : clI u n = FloatKind.f64.nearest (n - 2) := by unfold clI clampK kN; simp only [h1, h2, if_true, if_false, Bool.false_eq_true]
theorem clI_d (h1 : fcmp .geq .f64 (ffl (up u)) 0 = false) (h2 : fcmp .gtr .f64 0 (FloatKind.f64.nearest (n - 2)) = false) : clI u n = 0 := by unfold clI clampK kN; simp only [h1, h2, if_false, Bool.false_eq_true]
theorem clI_ci (h : 1 ≤ n ∧ n ≤ 216) (h1 : n ≠ 1) : floatToIntVal .f64 (clI u n) .i64 = some ((cix (clI u n) : Nat) : Int) := by
  obtain ⟨i, _, e, _⟩ := clI_ok (u := u) (n := n) (by omega)
  unfold cix; rw [e]; rfl
theorem clI_co (h : 1 ≤ n ∧ n ≤ 216) (h1 : n ≠ 1) : fover .f64 .f32 (clI u n) = false := by
  obtain ⟨i, _, _, e⟩ := clI_ok (u := u) (n := n) (by omega)
  exact e
theorem ci_of {Y : Nat} {j : Int} (e : Y = X) (h : floatToIntVal .f64 Y .i64 = some j) : floatToIntVal .f64 X .i64 = some j := by rw [← e]; exact h
theorem co_of {Y : Nat} (e : Y = X) (h : fover .f64 .f32 Y = false) : fover .f64 .f32 X = false := by rw [← e]; exact h
theorem celI_of (h1 : n ≠ 1) (e : clI u n = X) : Value.tuple #[.int .i64 (cix (clI u n) : Int), .float .f32 (fop .sub .f32 u (fconv .f64 .f32 X))] = .tuple #[.int .i64 ((celI u n).1 : Int), .float .f32 (celI u n).2] := by
  unfold celI; rw [if_neg h1, ← e]
theorem celI_1 (h1 : n = 1) : Value.tuple #[.int .i64 0, .float .f32 0] = .tuple #[.int .i64 ((celI u n).1 : Int), .float .f32 (celI u n).2] := by unfold celI; rw [if_pos h1]; rfl
end
def hvK (n k : Nat) : List Nat := (List.range k).map (mid n)
theorem hvK_length (n k : Nat) : (hvK n k).length = k := by simp [hvK]
theorem hvK_snoc {n k : Nat} (h : n ≠ 1) : fl (hvK n k) ++ [.float .f32 (fop .add .f32 (FloatKind.f32.nearest (k : Int)) 1056964608)] = fl (hvK n (k + 1)) := by
  rw [fl_snoc]; unfold hvK; rw [List.range_succ, List.map_append]; simp [mid, h]
theorem hvN_le {n : Nat} (h : 1 ≤ n) : hvN n ≤ n := by unfold hvN; split <;> omega
theorem hv_all {n : Nat} (h : n ≠ 1) : hvK n (n - 1) = hv n := by unfold hvK hv hvN; rw [if_neg h]
theorem row_1 {vs : List V3} {W H : Nat} {c : Nat × Nat} {y z : Nat} (h : W = 1) : rowV vs W H c y z = mval vs W H c.1 y z := by unfold rowV; rw [if_pos h]
theorem row_n {vs : List V3} {W H : Nat} {c : Nat × Nat} {y z : Nat} (h : W ≠ 1) : rowV vs W H c y z = between3 (mval vs W H c.1 y z) (mval vs W H (c.1 + 1) y z) c.2 := by unfold rowV; rw [if_neg h]
theorem col_1 {vs : List V3} {W H : Nat} {c d : Nat × Nat} {z : Nat} (h : H = 1) : colV vs W H c d z = rowV vs W H c d.1 z := by unfold colV; rw [if_pos h]
theorem col_n {vs : List V3} {W H : Nat} {c d : Nat × Nat} {z : Nat} (h : H ≠ 1) : colV vs W H c d z = between3 (rowV vs W H c d.1 z) (rowV vs W H c (d.1 + 1) z) d.2 := by unfold colV; rw [if_neg h]
theorem val_1 {vs : List V3} {W H D : Nat} {c d e : Nat × Nat} (h : D = 1) : valV vs W H D c d e = colV vs W H c d e.1 := by unfold valV; rw [if_pos h]
theorem val_n {vs : List V3} {W H D : Nat} {c d e : Nat × Nat} (h : D ≠ 1) : valV vs W H D c d e = between3 (colV vs W H c d e.1) (colV vs W H c d (e.1 + 1)) e.2 := by unfold valV; rw [if_neg h]
section
variable {ws : List Wr} {vs : List V3} {f : V3} {st W H D x y z k : Nat}
theorem wbU_0 : wbU ws vs f st W H D (nd W H 0 0 0) = 0 := by
  rw [show nd W H 0 0 0 = 0 from by unfold nd; simp]; rfl
def hvP (f : V3) (st W H D x y z : Nat) : V3 := place3 f st ((hv W).getD x 0) ((hv H).getD y 0) ((hv D).getD z 0)
theorem wbI_in (hx : x < hvN W) (hy : y < hvN H) (hz : z < hvN D) (hW : 1 ≤ W) (hH : 1 ≤ H) : wbU ws vs f st W H D (nd W H (x + 1) y z) = wbN ws vs f st W H D (wbU ws vs f st W H D (nd W H x y z)) (hvP f st W H D x y z) := by
  rw [show nd W H (x + 1) y z = nd W H x y z + 1 from by unfold nd; omega, wbU_in hx hy hz hW hH]
  unfold hvP
  rw [hv_get hx, hv_get hy, hv_get hz]
end
/-! ### remainder, quotient of what is not negative -/
section
variable {P : Program} {E : Env} {o : Oper}
end
end Go.Proofs.Ytfeciemlhiclbaa


namespace Go.Proofs.Ytfeciemlhiclbaa
open Go.RowKit
set_option linter.unusedVariables false
set_option linter.unusedSimpArgs false
set_option maxRecDepth 20000

theorem ext67_Val : ExtF Try.prog 67 (Extern.MathFloor.toIntegral "math.archFloor" .down) := ⟨_, Try.func67, by kernel_rfl, by kernel_rfl, by kernel_rfl, by kernel_rfl⟩
theorem known61_Val : Known Try.prog 61 := Known.mk' Try.func61 (by kernel_rfl)
theorem elt25_Val : Elt Try.prog 25 [Value.float .f32 0] 4 := Elt.mk' (by kernel_rfl) (by decide)
theorem known17_Val : Known Try.prog 17 := Known.mk' Try.func17 (by kernel_rfl)
theorem zero32_Val : (Try.prog.info? 32).bind (·.zero) = some (Value.agg #[Value.float .f32 0, Value.float .f32 0, Value.float .f32 0]) := by kernel_rfl
theorem sz2_Val : (Try.prog.info? 2).map (·.size) = some 1 := by kernel_rfl
theorem fb2_Val : flatB Try.prog 2 = true := by kernel_rfl
theorem sz35_Val : (Try.prog.info? 35).map (·.size) = some 8 := by kernel_rfl
theorem known29_Val : Known Try.prog 29 := Known.mk' Try.func29 (by kernel_rfl)
theorem sz32_Val : (Try.prog.info? 32).map (·.size) = some 3 := by kernel_rfl
theorem mixed_Val : Try.prog.follows .mixedOrders = true := by kernel_rfl
theorem fb25_Val : flatB Try.prog 25 = true := by kernel_rfl
theorem known48_Val : Known Try.prog 48 := Known.mk' Try.func48 (by kernel_rfl)
theorem fb77_Val : flatB Try.prog 77 = true := by kernel_rfl
theorem known47_Val : Known Try.prog 47 := Known.mk' Try.func47 (by kernel_rfl)
theorem known32_Val : Known Try.prog 32 := Known.mk' Try.func32 (by kernel_rfl)
theorem sz25_Val : (Try.prog.info? 25).map (·.size) = some 1 := by kernel_rfl
theorem known46_Val : Known Try.prog 46 := Known.mk' Try.func46 (by kernel_rfl)
theorem zero2_Val : (Try.prog.info? 2).bind (·.zero) = some (Value.int .i64 0) := by kernel_rfl
theorem zero25_Val : (Try.prog.info? 25).bind (·.zero) = some (Value.float .f32 0) := by kernel_rfl
theorem zero77_Val : (Try.prog.info? 77).bind (·.zero) = some (Value.nilFunc) := by kernel_rfl
theorem sz77_Val : (Try.prog.info? 77).map (·.size) = some 1 := by kernel_rfl
theorem known49_Val : Known Try.prog 49 := Known.mk' Try.func49 (by kernel_rfl)
attribute [local irreducible] fop fcmp fconv sqrt32 fneg List.getD ffl mval between3 rowV colV valV celI celS

theorem c_floor {w : World} {x : Nat} : Pure Try.prog 61 [.float .f64 x] w (.float .f64 (ffl x)) := by
  refine Pure.enter Try.func61 rfl Try.ntmps61 (Nat.le_of_ble_eq_true rfl) ?_
  refine V.seq ?_
  refine V.region ?_
  refine VL.r (.inl rfl) rfl (by decide) (yr_assign (u := .float .f64 0) rfl rfl) ?_
  refine VL.nil ?_
  refine VE.then_wp ?_
  refine V.seq ?_
  refine V.condT rfl ?_
  refine V.seq ?_
  refine V.region ?_
  refine VL.r (.inl rfl) rfl (by decide) (yr_move rfl rfl) ?_
  refine VL.q (.inl rfl) rfl (by decide) (yq_ext rfl ext67_Val (.cons rfl .nil) (fun vs w h => ext_floor vs w h)) ?_
  refine VL.r (.inl rfl) rfl (by decide) (yr_assign rfl rfl) ?_
  refine VL.nil ?_
  refine VE.then_wp ?_
  refine V.ret ?_
  refine VE.then_ret ?_
  refine ret1 rfl rfl (fun w1 hw => ?_)
  exact ⟨rfl, hw.below⟩

theorem c_cellI {w : World} {u : Nat} {n : Int} (hn : 1 ≤ n ∧ n ≤ 216) : Pure Try.prog 46 [.float .f32 u, .int .i64 n] w (.tuple #[.int .i64 ((celI u n).1 : Int), .float .f32 (celI u n).2]) := by
  refine Pure.enter Try.func46 rfl Try.ntmps46 (Nat.le_of_ble_eq_true rfl) ?_
  refine V.seq ?_
  refine V.region ?_
  refine VL.r (.inl rfl) rfl (by decide) (yr_assign (u := .int .i64 0) rfl rfl) ?_
  refine VL.r (.inl rfl) rfl (by decide) (yr_assign (u := .float .f32 0) rfl rfl) ?_
  refine VL.nil ?_
  refine VE.then_wp ?_
  refine V.seq ?_
  refine V.seq ?_
  refine V.region ?_
  refine VL.r (.inl rfl) rfl (by decide) (yr_move rfl rfl) ?_
  refine VL.r (.inl rfl) rfl (by decide) (yr_icmp rfl (.inl rfl) rfl rfl) ?_
  refine VL.nil ?_
  refine VE.then_wp ?_
  refine V.cond rfl (fun h1 => ?_) (fun h1 => ?_)
  · skip
    replace h1 := ic_eql h1
    refine V.seq ?_
    refine V.region ?_
    refine VL.r (.inl rfl) rfl (by decide) (yr_assign (u := .int .i64 0) rfl rfl) ?_
    refine VL.r (.inl rfl) rfl (by decide) (yr_assign (u := .float .f32 0) rfl rfl) ?_
    refine VL.nil ?_
    refine VE.then_wp ?_
    refine V.ret ?_
    refine VE.then_ret ?_
    refine ret2 rfl rfl rfl (by nofun) (by nofun) (fun w1 hw => ?_)
    first
      | exact ⟨celI_1 (by omega), hw.below⟩
      | exact ⟨celI_of (by omega) (clI_a (by assumption) (by assumption)), hw.below⟩
      | exact ⟨celI_of (by omega) (clI_b (by assumption) (by assumption)), hw.below⟩
      | exact ⟨celI_of (by omega) (clI_c (by assumption) (by assumption)), hw.below⟩
      | exact ⟨celI_of (by omega) (clI_d (by assumption) (by assumption)), hw.below⟩
  · skip
    replace h1 := ic_eql' h1
    refine V.skip ?_
    refine VE.then_wp ?_
    refine V.seq ?_
    refine V.region ?_
    refine VL.r (.inl rfl) rfl (by decide) (yr_move rfl rfl) ?_
    refine VL.r (.inl rfl) rfl (by decide) (yr_fconv rfl Try.underlying25 Try.underlying49 (by decide) rfl (fover_up _)) ?_
    refine VL.q (.inl rfl) rfl (by decide) (yq_callf rfl known61_Val (.cons rfl .nil) (fun w hw => c_floor)) ?_
    refine VL.r (.inl rfl) rfl (by decide) (yr_assign rfl rfl) ?_
    refine VL.nil ?_
    refine VE.then_wp ?_
    refine V.seq ?_
    refine V.seq ?_
    refine V.region ?_
    refine VL.r (.inl rfl) rfl (by decide) (yr_move rfl rfl) ?_
    refine VL.r (.inl rfl) rfl (by decide) (yr_fcmp (b := 0) rfl (.inr (.inr (.inr (.inr (.inr rfl))))) rfl rfl) ?_
    refine VL.r (.inl rfl) rfl (by decide) (yr_not rfl rfl) ?_
    refine VL.nil ?_
    refine VE.then_wp ?_
    refine V.cond rfl (fun h2 => ?_) (fun h2 => ?_)
    · skip
      replace h2 := bnot_t h2
      refine V.region ?_
      refine VL.r (.inl rfl) rfl (by decide) (yr_assign (u := .float .f64 0) rfl rfl) ?_
      refine VL.nil ?_
      refine VE.then_wp ?_
      refine V.seq ?_
      refine V.seq ?_
      refine V.region ?_
      refine VL.r (.inl rfl) rfl (by decide) (yr_move rfl rfl) ?_
      refine VL.r (.inl rfl) rfl (by decide) (yr_move rfl rfl) ?_
      refine VL.r (.inl rfl) rfl (by decide) (yr_int rfl rfl rfl (.inr (.inl ⟨rfl, wrap_in (by omega)⟩))) ?_
      refine VL.r (.inl rfl) rfl (by decide) (yr_ofInt rfl Try.underlying2 Try.underlying49 rfl) ?_
      refine VL.r (.inl rfl) rfl (by decide) (yr_fcmp rfl (.inr (.inr (.inr (.inr (.inl rfl))))) rfl rfl) ?_
      refine VL.nil ?_
      refine VE.then_wp ?_
      refine V.cond rfl (fun h3 => ?_) (fun h3 => ?_)
      · skip
        refine V.region ?_
        refine VL.r (.inl rfl) rfl (by decide) (yr_move rfl rfl) ?_
        refine VL.r (.inl rfl) rfl (by decide) (yr_int rfl rfl rfl (.inr (.inl ⟨rfl, wrap_in (by omega)⟩))) ?_
        refine VL.r (.inl rfl) rfl (by decide) (yr_ofInt rfl Try.underlying2 Try.underlying49 rfl) ?_
        refine VL.r (.inl rfl) rfl (by decide) (yr_assign rfl rfl) ?_
        refine VL.nil ?_
        refine VE.then_wp ?_
        refine V.seq ?_
        refine V.region ?_
        refine VL.r (.inl rfl) rfl (by decide) (yr_move rfl rfl) ?_
        refine VL.r (.inl rfl) rfl (by decide) (yr_toInt rfl Try.underlying49 Try.underlying2 rfl (by first | exact ci_of (clI_a (by assumption) (by assumption)) (clI_ci hn (by omega)) | exact ci_of (clI_b (by assumption) (by assumption)) (clI_ci hn (by omega)) | exact ci_of (clI_c (by assumption) (by assumption)) (clI_ci hn (by omega)) | exact ci_of (clI_d (by assumption) (by assumption)) (clI_ci hn (by omega)))) ?_
        refine VL.r (.inl rfl) rfl (by decide) (yr_move rfl rfl) ?_
        refine VL.r (.inl rfl) rfl (by decide) (yr_move rfl rfl) ?_
        refine VL.r (.inl rfl) rfl (by decide) (yr_fconv rfl Try.underlying49 Try.underlying25 (by decide) rfl (by first | exact co_of (clI_a (by assumption) (by assumption)) (clI_co hn (by omega)) | exact co_of (clI_b (by assumption) (by assumption)) (clI_co hn (by omega)) | exact co_of (clI_c (by assumption) (by assumption)) (clI_co hn (by omega)) | exact co_of (clI_d (by assumption) (by assumption)) (clI_co hn (by omega)))) ?_
        refine VL.r (.inl rfl) rfl (by decide) (yr_float rfl (.inr (.inl rfl)) rfl rfl) ?_
        refine VL.r (.inl rfl) rfl (by decide) (yr_assign rfl rfl) ?_
        refine VL.r (.inl rfl) rfl (by decide) (yr_assign rfl rfl) ?_
        refine VL.nil ?_
        refine VE.then_wp ?_
        refine V.ret ?_
        refine ret2 rfl rfl rfl (by nofun) (by nofun) (fun w1 hw => ?_)
        first
          | exact ⟨celI_1 (by omega), hw.below⟩
          | exact ⟨celI_of (by omega) (clI_a (by assumption) (by assumption)), hw.below⟩
          | exact ⟨celI_of (by omega) (clI_b (by assumption) (by assumption)), hw.below⟩
          | exact ⟨celI_of (by omega) (clI_c (by assumption) (by assumption)), hw.below⟩
          | exact ⟨celI_of (by omega) (clI_d (by assumption) (by assumption)), hw.below⟩
      · skip
        refine V.skip ?_
        refine VE.then_wp ?_
        refine V.seq ?_
        refine V.region ?_
        refine VL.r (.inl rfl) rfl (by decide) (yr_move rfl rfl) ?_
        refine VL.r (.inl rfl) rfl (by decide) (yr_toInt rfl Try.underlying49 Try.underlying2 rfl (by first | exact ci_of (clI_a (by assumption) (by assumption)) (clI_ci hn (by omega)) | exact ci_of (clI_b (by assumption) (by assumption)) (clI_ci hn (by omega)) | exact ci_of (clI_c (by assumption) (by assumption)) (clI_ci hn (by omega)) | exact ci_of (clI_d (by assumption) (by assumption)) (clI_ci hn (by omega)))) ?_
        refine VL.r (.inl rfl) rfl (by decide) (yr_move rfl rfl) ?_
        refine VL.r (.inl rfl) rfl (by decide) (yr_move rfl rfl) ?_
        refine VL.r (.inl rfl) rfl (by decide) (yr_fconv rfl Try.underlying49 Try.underlying25 (by decide) rfl (by first | exact co_of (clI_a (by assumption) (by assumption)) (clI_co hn (by omega)) | exact co_of (clI_b (by assumption) (by assumption)) (clI_co hn (by omega)) | exact co_of (clI_c (by assumption) (by assumption)) (clI_co hn (by omega)) | exact co_of (clI_d (by assumption) (by assumption)) (clI_co hn (by omega)))) ?_
        refine VL.r (.inl rfl) rfl (by decide) (yr_float rfl (.inr (.inl rfl)) rfl rfl) ?_
        refine VL.r (.inl rfl) rfl (by decide) (yr_assign rfl rfl) ?_
        refine VL.r (.inl rfl) rfl (by decide) (yr_assign rfl rfl) ?_
        refine VL.nil ?_
        refine VE.then_wp ?_
        refine V.ret ?_
        refine ret2 rfl rfl rfl (by nofun) (by nofun) (fun w1 hw => ?_)
        first
          | exact ⟨celI_1 (by omega), hw.below⟩
          | exact ⟨celI_of (by omega) (clI_a (by assumption) (by assumption)), hw.below⟩
          | exact ⟨celI_of (by omega) (clI_b (by assumption) (by assumption)), hw.below⟩
          | exact ⟨celI_of (by omega) (clI_c (by assumption) (by assumption)), hw.below⟩
          | exact ⟨celI_of (by omega) (clI_d (by assumption) (by assumption)), hw.below⟩
    · skip
      replace h2 := bnot_f h2
      refine V.skip ?_
      refine VE.then_wp ?_
      refine V.seq ?_
      refine V.seq ?_
      refine V.region ?_
      refine VL.r (.inl rfl) rfl (by decide) (yr_move rfl rfl) ?_
      refine VL.r (.inl rfl) rfl (by decide) (yr_move rfl rfl) ?_
      refine VL.r (.inl rfl) rfl (by decide) (yr_int rfl rfl rfl (.inr (.inl ⟨rfl, wrap_in (by omega)⟩))) ?_
      refine VL.r (.inl rfl) rfl (by decide) (yr_ofInt rfl Try.underlying2 Try.underlying49 rfl) ?_
      refine VL.r (.inl rfl) rfl (by decide) (yr_fcmp rfl (.inr (.inr (.inr (.inr (.inl rfl))))) rfl rfl) ?_
      refine VL.nil ?_
      refine VE.then_wp ?_
      refine V.cond rfl (fun h4 => ?_) (fun h4 => ?_)
      · skip
        refine V.region ?_
        refine VL.r (.inl rfl) rfl (by decide) (yr_move rfl rfl) ?_
        refine VL.r (.inl rfl) rfl (by decide) (yr_int rfl rfl rfl (.inr (.inl ⟨rfl, wrap_in (by omega)⟩))) ?_
        refine VL.r (.inl rfl) rfl (by decide) (yr_ofInt rfl Try.underlying2 Try.underlying49 rfl) ?_
        refine VL.r (.inl rfl) rfl (by decide) (yr_assign rfl rfl) ?_
        refine VL.nil ?_
        refine VE.then_wp ?_
        refine V.seq ?_
        refine V.region ?_
        refine VL.r (.inl rfl) rfl (by decide) (yr_move rfl rfl) ?_
        refine VL.r (.inl rfl) rfl (by decide) (yr_toInt rfl Try.underlying49 Try.underlying2 rfl (by first | exact ci_of (clI_a (by assumption) (by assumption)) (clI_ci hn (by omega)) | exact ci_of (clI_b (by assumption) (by assumption)) (clI_ci hn (by omega)) | exact ci_of (clI_c (by assumption) (by assumption)) (clI_ci hn (by omega)) | exact ci_of (clI_d (by assumption) (by assumption)) (clI_ci hn (by omega)))) ?_
        refine VL.r (.inl rfl) rfl (by decide) (yr_move rfl rfl) ?_
        refine VL.r (.inl rfl) rfl (by decide) (yr_move rfl rfl) ?_
        refine VL.r (.inl rfl) rfl (by decide) (yr_fconv rfl Try.underlying49 Try.underlying25 (by decide) rfl (by first | exact co_of (clI_a (by assumption) (by assumption)) (clI_co hn (by omega)) | exact co_of (clI_b (by assumption) (by assumption)) (clI_co hn (by omega)) | exact co_of (clI_c (by assumption) (by assumption)) (clI_co hn (by omega)) | exact co_of (clI_d (by assumption) (by assumption)) (clI_co hn (by omega)))) ?_
        refine VL.r (.inl rfl) rfl (by decide) (yr_float rfl (.inr (.inl rfl)) rfl rfl) ?_
        refine VL.r (.inl rfl) rfl (by decide) (yr_assign rfl rfl) ?_
        refine VL.r (.inl rfl) rfl (by decide) (yr_assign rfl rfl) ?_
        refine VL.nil ?_
        refine VE.then_wp ?_
        refine V.ret ?_
        refine ret2 rfl rfl rfl (by nofun) (by nofun) (fun w1 hw => ?_)
        first
          | exact ⟨celI_1 (by omega), hw.below⟩
          | exact ⟨celI_of (by omega) (clI_a (by assumption) (by assumption)), hw.below⟩
          | exact ⟨celI_of (by omega) (clI_b (by assumption) (by assumption)), hw.below⟩
          | exact ⟨celI_of (by omega) (clI_c (by assumption) (by assumption)), hw.below⟩
          | exact ⟨celI_of (by omega) (clI_d (by assumption) (by assumption)), hw.below⟩
      · skip
        refine V.skip ?_
        refine VE.then_wp ?_
        refine V.seq ?_
        refine V.region ?_
        refine VL.r (.inl rfl) rfl (by decide) (yr_move rfl rfl) ?_
        refine VL.r (.inl rfl) rfl (by decide) (yr_toInt rfl Try.underlying49 Try.underlying2 rfl (by first | exact ci_of (clI_a (by assumption) (by assumption)) (clI_ci hn (by omega)) | exact ci_of (clI_b (by assumption) (by assumption)) (clI_ci hn (by omega)) | exact ci_of (clI_c (by assumption) (by assumption)) (clI_ci hn (by omega)) | exact ci_of (clI_d (by assumption) (by assumption)) (clI_ci hn (by omega)))) ?_
        refine VL.r (.inl rfl) rfl (by decide) (yr_move rfl rfl) ?_
        refine VL.r (.inl rfl) rfl (by decide) (yr_move rfl rfl) ?_
        refine VL.r (.inl rfl) rfl (by decide) (yr_fconv rfl Try.underlying49 Try.underlying25 (by decide) rfl (by first | exact co_of (clI_a (by assumption) (by assumption)) (clI_co hn (by omega)) | exact co_of (clI_b (by assumption) (by assumption)) (clI_co hn (by omega)) | exact co_of (clI_c (by assumption) (by assumption)) (clI_co hn (by omega)) | exact co_of (clI_d (by assumption) (by assumption)) (clI_co hn (by omega)))) ?_
        refine VL.r (.inl rfl) rfl (by decide) (yr_float rfl (.inr (.inl rfl)) rfl rfl) ?_
        refine VL.r (.inl rfl) rfl (by decide) (yr_assign rfl rfl) ?_
        refine VL.r (.inl rfl) rfl (by decide) (yr_assign rfl rfl) ?_
        refine VL.nil ?_
        refine VE.then_wp ?_
        refine V.ret ?_
        refine ret2 rfl rfl rfl (by nofun) (by nofun) (fun w1 hw => ?_)
        first
          | exact ⟨celI_1 (by omega), hw.below⟩
          | exact ⟨celI_of (by omega) (clI_a (by assumption) (by assumption)), hw.below⟩
          | exact ⟨celI_of (by omega) (clI_b (by assumption) (by assumption)), hw.below⟩
          | exact ⟨celI_of (by omega) (clI_c (by assumption) (by assumption)), hw.below⟩
          | exact ⟨celI_of (by omega) (clI_d (by assumption) (by assumption)), hw.below⟩

theorem c_halves {w : World} {n : Nat} (hn : 1 ≤ n ∧ n ≤ 216) : New Try.prog 30 [.int .i64 (n : Int)] w (fun p : Option Addr × Nat => .slice p.1 (hvN n) p.2) (fun p => [⟨p.1, fl (hv n), p.2 * 1, 25⟩]) := by
  refine New.enter Try.func30 rfl Try.ntmps30 (Nat.le_of_ble_eq_true rfl) ?_
  refine V.seq ?_
  refine V.region ?_
  refine VL.r (.inl rfl) rfl (by decide) (yr_assign (u := .slice none 0 0) rfl rfl) ?_
  refine VL.nil ?_
  refine VE.then_wp ?_
  refine V.seq ?_
  refine V.seq ?_
  refine V.region ?_
  refine VL.r (.inl rfl) rfl (by decide) (yr_move rfl rfl) ?_
  refine VL.r (.inl rfl) rfl (by decide) (yr_icmp rfl (.inl rfl) rfl rfl) ?_
  refine VL.nil ?_
  refine VE.then_wp ?_
  refine V.cond rfl (fun h1 => ?_) (fun h1 => ?_)
  · skip
    replace h1 := ic_eql h1
    refine V.seq ?_
    refine V.region ?_
    refine VL.new1 (.inl rfl) rfl (by decide) (yn_lit rfl Try.underlying46 elt25_Val rfl (by decide) (.cons rfl .nil) (by first | (simp; done) | (simp [cn, cn1, cn0]; done)) rfl rfl rfl) ?_
    intro b7
    refine VL.r (.inl rfl) rfl (by decide) (yr_assign rfl rfl) ?_
    refine VL.nil ?_
    refine VE.then_wp ?_
    refine V.ret ?_
    refine VE.then_ret ?_
    refine ret1 rfl rfl (fun w1 hw => ?_)
    first
      | (obtain rfl : k = n - 1 := by omega
         have h9 := hw.out1
         rw [hv_all hn1] at h9
         exact ⟨(ar, cr), by rw [show hvN n = n - 1 from by unfold hvN; rw [if_neg hn1]], h9⟩)
      | (obtain rfl : n = 1 := by omega
         exact ⟨(some ⟨b7, 0, none⟩, 1), rfl, hw.out1⟩)
  · skip
    replace h1 := ic_eql' h1
    refine V.skip ?_
    refine VE.then_wp ?_
    refine V.seq ?_
    refine V.region ?_
    refine VL.new1 (.inl rfl) rfl (by decide) (yn_lit rfl Try.underlying46 elt25_Val rfl (by decide) .nil (by first | (simp; done) | (simp [cn, cn1, cn0]; done)) rfl rfl rfl) ?_
    intro b8
    refine VL.r (.inl rfl) rfl (by decide) (yr_assign rfl rfl) ?_
    refine VL.nil ?_
    refine VE.then_wp ?_
    refine V.seq ?_
    refine V.seq ?_
    refine V.region ?_
    refine VL.r (.inl rfl) rfl (by decide) (yr_move rfl rfl) ?_
    refine VL.r (.inl rfl) rfl (by decide) (yr_int rfl rfl rfl (.inr (.inl ⟨rfl, wrap_in (by omega)⟩))) ?_
    refine VL.r (.inl rfl) rfl (by decide) (yr_move (u := .int .i64 0) rfl rfl) ?_
    refine VL.nil ?_
    refine VE.then_wp ?_
    refine V.block ?_
    refine V.loopc (G := Nat × (Option Addr) × Nat) [(10, _)] (fun ⟨k, ar, cr⟩ => k ≤ n - 1 ∧ n ≠ 1) (fun ⟨k, ar, cr⟩ => [⟨ar, fl (hvK n k), cr * 1, 25⟩]) (fun ⟨k, ar, cr⟩ => [(3, .slice ar k cr), (11, .int .i64 (k : Int))]) (fun ⟨k, ar, cr⟩ => n - k) (0, some ⟨b8, 0, none⟩, 0) (.cons rfl .nil) (.cons rfl (.cons rfl .nil)) ?_ ?_ ?_
    · exact (fun w hw => hw)
    · exact (by exact ⟨by omega, by omega⟩)
    rintro ⟨k, ar, cr⟩ ⟨hk, hn1⟩
    show V _ _ _ [⟨ar, fl (hvK n k), cr * 1, 25⟩] ([(3, .slice ar k cr), (11, .int .i64 (k : Int))] ++ [(10, _)]) _ _
    refine V.seq ?_
    refine V.region ?_
    refine VL.r (.inl rfl) rfl (by decide) (yr_icmp rfl (.inr (.inr (.inl rfl))) rfl rfl) ?_
    refine VL.nil ?_
    refine VE.then_wp ?_
    refine V.seq ?_
    refine V.cond rfl (fun h2 => ?_) (fun h2 => ?_)
    · skip
      replace h2 := ic_lss h2
      refine V.skip ?_
      refine VE.then_wp ?_
      refine V.seq ?_
      refine V.block ?_
      refine V.seq ?_
      refine V.region ?_
      refine VL.r (.inl rfl) rfl (by decide) (yr_move rfl rfl) ?_
      refine VL.r (.inl rfl) rfl (by decide) (yr_assign rfl rfl) ?_
      refine VL.nil ?_
      refine VE.then_wp ?_
      refine V.region ?_
      refine VL.r (.inl rfl) rfl (by decide) (yr_move rfl rfl) ?_
      refine VL.r (.inl rfl) rfl (by decide) (yr_move rfl rfl) ?_
      refine VL.r (.inl rfl) rfl (by decide) (yr_ofInt rfl Try.underlying2 Try.underlying25 rfl) ?_
      refine VL.r (.inl rfl) rfl (by decide) (yr_float (b := 1056964608) rfl (.inl rfl) rfl rfl) ?_
      refine VL.new1 (.inl rfl) rfl (by decide) (yn_lit rfl Try.underlying46 elt25_Val rfl (by decide) (.cons rfl .nil) (by first | (simp; done) | (simp [cn, cn1, cn0]; done)) rfl rfl rfl) ?_
      intro b18
      refine VL.c (.inl rfl) rfl (by decide) (yc_appendz 1 rfl rfl Try.underlying46 elt25_Val rfl rfl (by repeat (first | exact UpdF.here | apply UpdF.there | apply UpdF.thereS)) (by first | exact Sees.root (by assumption) | exact Sees.own (by repeat (first | exact List.mem_cons_self | exact List.mem_append_left _ (by assumption) | apply List.mem_cons_of_mem | apply List.mem_append_right)) | exact Sees.root (hR _ (by omega)) | exact Sees.own (RowsIn.mem (by repeat (first | exact RowsIn.here | exact RowsIn.last | apply RowsIn.there | apply RowsIn.thereS)) _ (by omega)) | exact Sees.own (WRowsIn.mem (by repeat (first | exact WRowsIn.here | exact WRowsIn.last | apply WRowsIn.there | apply WRowsIn.thereS)) _ (by omega))) rfl (by rw [fl_length, hvK_length, Nat.mul_one]) rfl (fl_scal _) rfl (by omega) (by omega)) ?_
      rintro ⟨a19, c19⟩
      refine VL.r (.inl rfl) rfl (by decide) (yr_assign rfl rfl) ?_
      refine VL.nil ?_
      refine VE.block_normal ?_
      refine VE.then_wp ?_
      refine V.region ?_
      refine VL.r (.inl rfl) rfl (by decide) (yr_int rfl rfl rfl (.inl ⟨rfl, wrap_in (by omega)⟩)) ?_
      refine VL.r (.inl rfl) rfl (by decide) (yr_move rfl rfl) ?_
      refine VL.nil ?_
      refine VE.round (k + 1, a19, c19) ?_ ?_ ?_ ?_ ?_
      · exact (.cons rfl (.cons rfl .nil))
      · exact (.cons rfl .nil)
      · exact (fun w hw => by have h9 := hw.sub (List.sublist_cons_self _ _); dsimp only; rw [← hvK_snoc hn1]; exact h9)
      · exact ⟨by omega, hn1⟩
      · (try dsimp only); omega
    · skip
      replace h2 := ic_lss' h2
      refine V.exit ?_
      refine VE.then_exit ?_
      refine VE.then_exit ?_
      refine VE.block_here ?_
      refine VE.then_wp ?_
      refine V.seq ?_
      refine V.region ?_
      refine VL.r (.inl rfl) rfl (by decide) (yr_move rfl rfl) ?_
      refine VL.r (.inl rfl) rfl (by decide) (yr_assign rfl rfl) ?_
      refine VL.nil ?_
      refine VE.then_wp ?_
      refine V.ret ?_
      refine ret1 rfl rfl (fun w1 hw => ?_)
      first
        | (obtain rfl : k = n - 1 := by omega
           have h9 := hw.out1
           rw [hv_all hn1] at h9
           exact ⟨(ar, cr), by rw [show hvN n = n - 1 from by unfold hvN; rw [if_neg hn1]], h9⟩)
        | (obtain rfl : n = 1 := by omega
           exact ⟨(some ⟨b7, 0, none⟩, 1), rfl, hw.out1⟩)

theorem c_ifNum {w : World} {x : Nat} : Pure Try.prog 34 [.float .f32 x] w (.tuple #[.float .f32 (if fin x then x else 0), .bool (fin x)]) := by
  refine Pure.enter Try.func34 rfl Try.ntmps34 (Nat.le_of_ble_eq_true rfl) ?_
  refine V.seq ?_
  refine V.region ?_
  refine VL.r (.inl rfl) rfl (by decide) (yr_assign (u := .float .f32 0) rfl rfl) ?_
  refine VL.r (.inl rfl) rfl (by decide) (yr_assign (u := .bool false) rfl rfl) ?_
  refine VL.nil ?_
  refine VE.then_wp ?_
  refine V.seq ?_
  refine V.seq ?_
  refine V.region ?_
  refine VL.r (.inl rfl) rfl (by decide) (yr_move rfl rfl) ?_
  refine VL.q (.inl rfl) rfl (by decide) (yq_callf rfl known17_Val (.cons rfl .nil) (fun w hw => c_IsFinite _)) ?_
  refine VL.r (.inl rfl) rfl (by decide) (yr_not rfl rfl) ?_
  refine VL.nil ?_
  refine VE.then_wp ?_
  refine V.cond rfl (fun h1 => ?_) (fun h1 => ?_)
  · skip
    replace h1 := bnot_t h1
    refine V.seq ?_
    refine V.region ?_
    refine VL.r (.inl rfl) rfl (by decide) (yr_assign (u := .float .f32 0) rfl rfl) ?_
    refine VL.r (.inl rfl) rfl (by decide) (yr_assign (u := .bool false) rfl rfl) ?_
    refine VL.nil ?_
    refine VE.then_wp ?_
    refine V.ret ?_
    refine VE.then_ret ?_
    refine ret2 rfl rfl rfl (by nofun) (by nofun) (fun w1 hw => ?_)
    first
      | (have h : fin x = true := by assumption
         exact ⟨by rw [if_pos h, h], hw.below⟩)
      | (have h : fin x = false := by assumption
         exact ⟨by rw [if_neg (by rw [h]; decide), h], hw.below⟩)
  · skip
    replace h1 := bnot_f h1
    refine V.skip ?_
    refine VE.then_wp ?_
    refine V.seq ?_
    refine V.region ?_
    refine VL.r (.inl rfl) rfl (by decide) (yr_move rfl rfl) ?_
    refine VL.r (.inl rfl) rfl (by decide) (yr_assign rfl rfl) ?_
    refine VL.r (.inl rfl) rfl (by decide) (yr_assign (u := .bool true) rfl rfl) ?_
    refine VL.nil ?_
    refine VE.then_wp ?_
    refine V.ret ?_
    refine ret2 rfl rfl rfl (by nofun) (by nofun) (fun w1 hw => ?_)
    first
      | (have h : fin x = true := by assumption
         exact ⟨by rw [if_pos h, h], hw.below⟩)
      | (have h : fin x = false := by assumption
         exact ⟨by rw [if_neg (by rw [h]; decide), h], hw.below⟩)

theorem c_alongX {w : World} {f1 f2 f3 st W H D : Nat} {a : Option Addr} {c : Nat} {vs : List V3} {q2 q6 q7 i s y z : Nat} (hM : Cl w (some ⟨q2, 0, none⟩) [.float .f32 f1, .float .f32 f2, .float .f32 f3, .float .f32 st, .int .i64 (W : Int), .int .i64 (H : Int), .int .i64 (D : Int), .slice a vs.length c]) (hB6 : Cl w (some ⟨q6, 0, none⟩) [.int .i64 (i : Int)]) (hB7 : Cl w (some ⟨q7, 0, none⟩) [.float .f32 s]) (hA : Cl w a (vl vs)) (hN : vs.length = W * H * D) (hbd : W * H * D ≤ 216) (hW : 1 ≤ W ∧ W ≤ 216) (hH : 1 ≤ H ∧ H ≤ 216) (hD : 1 ≤ D ∧ D ≤ 216) (hi : (W = 1 → i = 0) ∧ (W ≠ 1 → i + 1 < W)) (hy : y < H) (hz : z < D) : Pure Try.prog 47 [.int .i64 (y : Int), .int .i64 (z : Int), .pointer (some (adr (some ⟨q2, 0, none⟩) 0)), .pointer (some (adr (some ⟨q6, 0, none⟩) 0)), .pointer (some (adr (some ⟨q7, 0, none⟩) 0))] w (vv (rowV vs W H (i, s) y z)) := by
  refine Pure.enter Try.func47 rfl Try.ntmps47 (Nat.le_of_ble_eq_true rfl) ?_
  refine V.seq ?_
  refine V.region ?_
  refine VL.new1 (.inl rfl) rfl (by decide) (yn_alloc rfl zero32_Val rfl) ?_
  intro b7
  refine VL.nil ?_
  refine VE.then_wp ?_
  refine V.seq ?_
  refine V.seq ?_
  refine V.region ?_
  refine VL.r (.inl rfl) rfl (by decide) (yr_fieldAddr rfl Try.underlying35 rfl rfl sz2_Val (by decide) rfl) ?_
  refine VL.q (.inl rfl) rfl (by decide) (yq_load rfl fb2_Val rfl (by first | exact Sees.root (by assumption) | exact Sees.own (by repeat (first | exact List.mem_cons_self | exact List.mem_append_left _ (by assumption) | apply List.mem_cons_of_mem | apply List.mem_append_right)) | exact Sees.root (hR _ (by omega)) | exact Sees.own (RowsIn.mem (by repeat (first | exact RowsIn.here | exact RowsIn.last | apply RowsIn.there | apply RowsIn.thereS)) _ (by omega)) | exact Sees.own (WRowsIn.mem (by repeat (first | exact WRowsIn.here | exact WRowsIn.last | apply WRowsIn.there | apply WRowsIn.thereS)) _ (by omega))) rfl) ?_
  refine VL.r (.inl rfl) rfl (by decide) (yr_icmp rfl (.inl rfl) rfl rfl) ?_
  refine VL.nil ?_
  refine VE.then_wp ?_
  refine V.cond rfl (fun h1 => ?_) (fun h1 => ?_)
  · skip
    replace h1 := ic_eql h1
    refine V.seq ?_
    refine V.region ?_
    refine VL.q (.inl rfl) rfl (by decide) (yq_loadS rfl Try.underlying35 sz35_Val rfl (by first | exact Sees.root (by assumption) | exact Sees.own (by repeat (first | exact List.mem_cons_self | exact List.mem_append_left _ (by assumption) | apply List.mem_cons_of_mem | apply List.mem_append_right)) | exact Sees.root (hR _ (by omega)) | exact Sees.own (RowsIn.mem (by repeat (first | exact RowsIn.here | exact RowsIn.last | apply RowsIn.there | apply RowsIn.thereS)) _ (by omega)) | exact Sees.own (WRowsIn.mem (by repeat (first | exact WRowsIn.here | exact WRowsIn.last | apply WRowsIn.there | apply WRowsIn.thereS)) _ (by omega))) rfl rfl rfl) ?_
    refine VL.q (.inl rfl) rfl (by decide) (yq_load rfl fb2_Val rfl (by first | exact Sees.root (by assumption) | exact Sees.own (by repeat (first | exact List.mem_cons_self | exact List.mem_append_left _ (by assumption) | apply List.mem_cons_of_mem | apply List.mem_append_right)) | exact Sees.root (hR _ (by omega)) | exact Sees.own (RowsIn.mem (by repeat (first | exact RowsIn.here | exact RowsIn.last | apply RowsIn.there | apply RowsIn.thereS)) _ (by omega)) | exact Sees.own (WRowsIn.mem (by repeat (first | exact WRowsIn.here | exact WRowsIn.last | apply WRowsIn.there | apply WRowsIn.thereS)) _ (by omega))) rfl) ?_
    refine VL.r (.inl rfl) rfl (by decide) (yr_move rfl rfl) ?_
    refine VL.r (.inl rfl) rfl (by decide) (yr_move rfl rfl) ?_
    refine VL.q (.inl rfl) rfl (by decide) (yq_callf rfl known29_Val (.cons rfl (.cons rfl (.cons rfl (.cons rfl .nil)))) (fun w hw => (c_at (x := i) (y := y) (z := z) (by first | exact Sees.root (by assumption) w hw | exact Sees.own (by repeat (first | exact List.mem_cons_self | exact List.mem_append_left _ (by assumption) | apply List.mem_cons_of_mem | apply List.mem_append_right)) w hw) hN hbd (by omega) (by omega) (by omega)))) ?_
    refine VL.s (.inl rfl) rfl (yc_store rfl sz32_Val rfl rfl (by repeat (first | exact UpdF.here | apply UpdF.there | apply UpdF.thereS)) (.inr ⟨rfl, rfl⟩) rfl (by first | exact Nat.le_of_ble_eq_true rfl | simp) (by decide) rfl) ?_
    rintro ⟨⟩
    refine VL.nil ?_
    refine VE.then_wp ?_
    refine V.ret ?_
    refine VE.then_ret ?_
    refine retC rfl (rv_cellS rfl Try.underlying32 sz32_Val (by first | exact Sees.root (by assumption) | exact Sees.own (by repeat (first | exact List.mem_cons_self | exact List.mem_append_left _ (by assumption) | apply List.mem_cons_of_mem | apply List.mem_append_right)) | exact Sees.root (hR _ (by omega)) | exact Sees.own (RowsIn.mem (by repeat (first | exact RowsIn.here | exact RowsIn.last | apply RowsIn.there | apply RowsIn.thereS)) _ (by omega)) | exact Sees.own (WRowsIn.mem (by repeat (first | exact WRowsIn.here | exact WRowsIn.last | apply WRowsIn.there | apply WRowsIn.thereS)) _ (by omega))) rfl rfl rfl) (by nofun) (fun w1 hw => ?_)
    first
      | exact ⟨congrArg vv (row_1 (vs := vs) (W := W) (H := H) (c := (i, s)) (y := y) (z := z) (by omega)).symm, hw.below⟩
      | exact ⟨congrArg vv (row_n (vs := vs) (W := W) (H := H) (c := (i, s)) (y := y) (z := z) (by omega)).symm, hw.below⟩
  · skip
    replace h1 := ic_eql' h1
    refine V.skip ?_
    refine VE.then_wp ?_
    refine V.seq ?_
    refine Dr.V.drawR [(0, 5), (1, 5), (2, 5), (3, 5), (4, 5), (5, 5), (6, 5), (7, 5), (8, 5), (9, 5), (10, 5), (11, 5), (12, 5), (13, 3)] [] [⟨some ⟨b7, 0, none⟩, [.float .f32 (z3).1, .float .f32 (z3).2.1, .float .f32 (z3).2.2], 3, 32⟩] [] mixed_Val (by kernel_rfl) (fun w hw => hw) ?_
    refine Dr.SW.p rfl (.inl rfl) rfl (by decide) (yq_loadS rfl Try.underlying35 sz35_Val rfl (by first | exact Sees.root (by assumption) | exact Sees.own (by (try simp only [List.append_assoc, List.cons_append, List.nil_append]); repeat (first | exact List.mem_cons_self | exact List.mem_append_left _ (by assumption) | apply List.mem_cons_of_mem | apply List.mem_append_right)) | exact Sees.root (hR _ (by omega)) | exact Sees.own (RowsIn.mem (by (try simp only [List.append_assoc, List.cons_append, List.nil_append]); repeat (first | exact RowsIn.here | exact RowsIn.last | apply RowsIn.there | apply RowsIn.thereS)) _ (by omega)) | exact Sees.own (WRowsIn.mem (by (try simp only [List.append_assoc, List.cons_append, List.nil_append]); repeat (first | exact WRowsIn.here | exact WRowsIn.last | apply WRowsIn.there | apply WRowsIn.thereS)) _ (by omega))) rfl rfl rfl) ?_
    refine Dr.SW.p rfl (.inl rfl) rfl (by decide) (yq_load rfl fb2_Val rfl (by first | exact Sees.root (by assumption) | exact Sees.own (by (try simp only [List.append_assoc, List.cons_append, List.nil_append]); repeat (first | exact List.mem_cons_self | exact List.mem_append_left _ (by assumption) | apply List.mem_cons_of_mem | apply List.mem_append_right)) | exact Sees.root (hR _ (by omega)) | exact Sees.own (RowsIn.mem (by (try simp only [List.append_assoc, List.cons_append, List.nil_append]); repeat (first | exact RowsIn.here | exact RowsIn.last | apply RowsIn.there | apply RowsIn.thereS)) _ (by omega)) | exact Sees.own (WRowsIn.mem (by (try simp only [List.append_assoc, List.cons_append, List.nil_append]); repeat (first | exact WRowsIn.here | exact WRowsIn.last | apply WRowsIn.there | apply WRowsIn.thereS)) _ (by omega))) rfl) ?_
    refine Dr.SW.r rfl (.inl rfl) rfl (by decide) (yr_move rfl rfl) ?_
    refine Dr.SW.r rfl (.inl rfl) rfl (by decide) (yr_move rfl rfl) ?_
    refine Dr.SW.p rfl (.inl rfl) rfl (by decide) (yq_callf rfl known29_Val (.cons rfl (.cons rfl (.cons rfl (.cons rfl .nil)))) (fun w hw => (c_at (x := i) (y := y) (z := z) (by first | exact Sees.root (by assumption) w hw | exact Sees.own (by (try simp only [List.append_assoc, List.cons_append, List.nil_append]); repeat (first | exact List.mem_cons_self | exact List.mem_append_left _ (by assumption) | apply List.mem_cons_of_mem | apply List.mem_append_right)) w hw) hN hbd (by omega) (by omega) (by omega)))) ?_
    refine Dr.SW.p rfl (.inl rfl) rfl (by decide) (yq_loadS rfl Try.underlying35 sz35_Val rfl (by first | exact Sees.root (by assumption) | exact Sees.own (by (try simp only [List.append_assoc, List.cons_append, List.nil_append]); repeat (first | exact List.mem_cons_self | exact List.mem_append_left _ (by assumption) | apply List.mem_cons_of_mem | apply List.mem_append_right)) | exact Sees.root (hR _ (by omega)) | exact Sees.own (RowsIn.mem (by (try simp only [List.append_assoc, List.cons_append, List.nil_append]); repeat (first | exact RowsIn.here | exact RowsIn.last | apply RowsIn.there | apply RowsIn.thereS)) _ (by omega)) | exact Sees.own (WRowsIn.mem (by (try simp only [List.append_assoc, List.cons_append, List.nil_append]); repeat (first | exact WRowsIn.here | exact WRowsIn.last | apply WRowsIn.there | apply WRowsIn.thereS)) _ (by omega))) rfl rfl rfl) ?_
    refine Dr.SW.p rfl (.inl rfl) rfl (by decide) (yq_load rfl fb2_Val rfl (by first | exact Sees.root (by assumption) | exact Sees.own (by (try simp only [List.append_assoc, List.cons_append, List.nil_append]); repeat (first | exact List.mem_cons_self | exact List.mem_append_left _ (by assumption) | apply List.mem_cons_of_mem | apply List.mem_append_right)) | exact Sees.root (hR _ (by omega)) | exact Sees.own (RowsIn.mem (by (try simp only [List.append_assoc, List.cons_append, List.nil_append]); repeat (first | exact RowsIn.here | exact RowsIn.last | apply RowsIn.there | apply RowsIn.thereS)) _ (by omega)) | exact Sees.own (WRowsIn.mem (by (try simp only [List.append_assoc, List.cons_append, List.nil_append]); repeat (first | exact WRowsIn.here | exact WRowsIn.last | apply WRowsIn.there | apply WRowsIn.thereS)) _ (by omega))) rfl) ?_
    refine Dr.SW.r rfl (.inl rfl) rfl (by decide) (yr_addN (i + 1) rfl rfl rfl (by push_cast; rfl) (by omega)) ?_
    refine Dr.SW.r rfl (.inl rfl) rfl (by decide) (yr_move rfl rfl) ?_
    refine Dr.SW.r rfl (.inl rfl) rfl (by decide) (yr_move rfl rfl) ?_
    refine Dr.SW.p rfl (.inl rfl) rfl (by decide) (yq_callf rfl known29_Val (.cons rfl (.cons rfl (.cons rfl (.cons rfl .nil)))) (fun w hw => (c_at (x := i + 1) (y := y) (z := z) (by first | exact Sees.root (by assumption) w hw | exact Sees.own (by (try simp only [List.append_assoc, List.cons_append, List.nil_append]); repeat (first | exact List.mem_cons_self | exact List.mem_append_left _ (by assumption) | apply List.mem_cons_of_mem | apply List.mem_append_right)) w hw) hN hbd (by omega) (by omega) (by omega)))) ?_
    refine Dr.SW.p rfl (.inl rfl) rfl (by decide) (yq_load rfl fb25_Val rfl (by first | exact Sees.root (by assumption) | exact Sees.own (by (try simp only [List.append_assoc, List.cons_append, List.nil_append]); repeat (first | exact List.mem_cons_self | exact List.mem_append_left _ (by assumption) | apply List.mem_cons_of_mem | apply List.mem_append_right)) | exact Sees.root (hR _ (by omega)) | exact Sees.own (RowsIn.mem (by (try simp only [List.append_assoc, List.cons_append, List.nil_append]); repeat (first | exact RowsIn.here | exact RowsIn.last | apply RowsIn.there | apply RowsIn.thereS)) _ (by omega)) | exact Sees.own (WRowsIn.mem (by (try simp only [List.append_assoc, List.cons_append, List.nil_append]); repeat (first | exact WRowsIn.here | exact WRowsIn.last | apply WRowsIn.there | apply WRowsIn.thereS)) _ (by omega))) rfl) ?_
    refine Dr.SW.p rfl (.inl rfl) rfl (by decide) (yq_callf rfl known48_Val (.cons rfl (.cons rfl (.cons rfl .nil))) (fun w hw => c_between)) ?_
    refine Dr.SW.s rfl (.inl rfl) rfl (yc_store rfl sz32_Val rfl rfl (Dr.UpdF.app (by repeat (first | exact UpdF.here | apply UpdF.there | apply UpdF.thereS))) (.inr ⟨rfl, rfl⟩) rfl (by first | exact Nat.le_of_ble_eq_true rfl | simp) (by decide) rfl) ?_
    rintro ⟨⟩
    refine Dr.SW.done ?_
    refine Dr.eqO (by simp only [List.append_nil, List.append_assoc, List.cons_append, List.nil_append] <;> rfl) ?_
    refine VE.then_wp ?_
    refine V.ret ?_
    refine retC rfl (rv_cellS rfl Try.underlying32 sz32_Val (by first | exact Sees.root (by assumption) | exact Sees.own (by repeat (first | exact List.mem_cons_self | exact List.mem_append_left _ (by assumption) | apply List.mem_cons_of_mem | apply List.mem_append_right)) | exact Sees.root (hR _ (by omega)) | exact Sees.own (RowsIn.mem (by repeat (first | exact RowsIn.here | exact RowsIn.last | apply RowsIn.there | apply RowsIn.thereS)) _ (by omega)) | exact Sees.own (WRowsIn.mem (by repeat (first | exact WRowsIn.here | exact WRowsIn.last | apply WRowsIn.there | apply WRowsIn.thereS)) _ (by omega))) rfl rfl rfl) (by nofun) (fun w1 hw => ?_)
    first
      | exact ⟨congrArg vv (row_1 (vs := vs) (W := W) (H := H) (c := (i, s)) (y := y) (z := z) (by omega)).symm, hw.below⟩
      | exact ⟨congrArg vv (row_n (vs := vs) (W := W) (H := H) (c := (i, s)) (y := y) (z := z) (by omega)).symm, hw.below⟩

theorem c_alongY {w : World} {f1 f2 f3 st W H D : Nat} {a : Option Addr} {c : Nat} {vs : List V3} {q2 q6 q7 q8 q9 q12 i s j t z : Nat} (hM : Cl w (some ⟨q2, 0, none⟩) [.float .f32 f1, .float .f32 f2, .float .f32 f3, .float .f32 st, .int .i64 (W : Int), .int .i64 (H : Int), .int .i64 (D : Int), .slice a vs.length c]) (hB6 : Cl w (some ⟨q6, 0, none⟩) [.int .i64 (i : Int)]) (hB7 : Cl w (some ⟨q7, 0, none⟩) [.float .f32 s]) (hF : Cl w (some ⟨q12, 0, none⟩) [.func (.func 47) #[] #[.pointer (some (adr (some ⟨q2, 0, none⟩) 0)), .pointer (some (adr (some ⟨q6, 0, none⟩) 0)), .pointer (some (adr (some ⟨q7, 0, none⟩) 0))]]) (hB8 : Cl w (some ⟨q8, 0, none⟩) [.int .i64 (j : Int)]) (hB9 : Cl w (some ⟨q9, 0, none⟩) [.float .f32 t]) (hA : Cl w a (vl vs)) (hN : vs.length = W * H * D) (hbd : W * H * D ≤ 216) (hW : 1 ≤ W ∧ W ≤ 216) (hH : 1 ≤ H ∧ H ≤ 216) (hD : 1 ≤ D ∧ D ≤ 216) (hi : (W = 1 → i = 0) ∧ (W ≠ 1 → i + 1 < W)) (hj : (H = 1 → j = 0) ∧ (H ≠ 1 → j + 1 < H)) (hz : z < D) : Pure Try.prog 49 [.int .i64 (z : Int), .pointer (some (adr (some ⟨q2, 0, none⟩) 0)), .pointer (some (adr (some ⟨q12, 0, none⟩) 0)), .pointer (some (adr (some ⟨q8, 0, none⟩) 0)), .pointer (some (adr (some ⟨q9, 0, none⟩) 0))] w (vv (colV vs W H (i, s) (j, t) z)) := by
  refine Pure.enter Try.func49 rfl Try.ntmps49 (Nat.le_of_ble_eq_true rfl) ?_
  refine V.seq ?_
  refine V.region ?_
  refine VL.new1 (.inl rfl) rfl (by decide) (yn_alloc rfl zero32_Val rfl) ?_
  intro b6
  refine VL.nil ?_
  refine VE.then_wp ?_
  refine V.seq ?_
  refine V.seq ?_
  refine V.region ?_
  refine VL.r (.inl rfl) rfl (by decide) (yr_fieldAddr rfl Try.underlying35 rfl rfl sz2_Val (by decide) rfl) ?_
  refine VL.q (.inl rfl) rfl (by decide) (yq_load rfl fb2_Val rfl (by first | exact Sees.root (by assumption) | exact Sees.own (by repeat (first | exact List.mem_cons_self | exact List.mem_append_left _ (by assumption) | apply List.mem_cons_of_mem | apply List.mem_append_right)) | exact Sees.root (hR _ (by omega)) | exact Sees.own (RowsIn.mem (by repeat (first | exact RowsIn.here | exact RowsIn.last | apply RowsIn.there | apply RowsIn.thereS)) _ (by omega)) | exact Sees.own (WRowsIn.mem (by repeat (first | exact WRowsIn.here | exact WRowsIn.last | apply WRowsIn.there | apply WRowsIn.thereS)) _ (by omega))) rfl) ?_
  refine VL.r (.inl rfl) rfl (by decide) (yr_icmp rfl (.inl rfl) rfl rfl) ?_
  refine VL.nil ?_
  refine VE.then_wp ?_
  refine V.cond rfl (fun h1 => ?_) (fun h1 => ?_)
  · skip
    replace h1 := ic_eql h1
    refine V.seq ?_
    refine V.region ?_
    refine VL.q (.inl rfl) rfl (by decide) (yq_load rfl fb77_Val rfl (by first | exact Sees.root (by assumption) | exact Sees.own (by repeat (first | exact List.mem_cons_self | exact List.mem_append_left _ (by assumption) | apply List.mem_cons_of_mem | apply List.mem_append_right)) | exact Sees.root (hR _ (by omega)) | exact Sees.own (RowsIn.mem (by repeat (first | exact RowsIn.here | exact RowsIn.last | apply RowsIn.there | apply RowsIn.thereS)) _ (by omega)) | exact Sees.own (WRowsIn.mem (by repeat (first | exact WRowsIn.here | exact WRowsIn.last | apply WRowsIn.there | apply WRowsIn.thereS)) _ (by omega))) rfl) ?_
    refine VL.q (.inl rfl) rfl (by decide) (yq_load rfl fb2_Val rfl (by first | exact Sees.root (by assumption) | exact Sees.own (by repeat (first | exact List.mem_cons_self | exact List.mem_append_left _ (by assumption) | apply List.mem_cons_of_mem | apply List.mem_append_right)) | exact Sees.root (hR _ (by omega)) | exact Sees.own (RowsIn.mem (by repeat (first | exact RowsIn.here | exact RowsIn.last | apply RowsIn.there | apply RowsIn.thereS)) _ (by omega)) | exact Sees.own (WRowsIn.mem (by repeat (first | exact WRowsIn.here | exact WRowsIn.last | apply WRowsIn.there | apply WRowsIn.thereS)) _ (by omega))) rfl) ?_
    refine VL.r (.inl rfl) rfl (by decide) (yr_move rfl rfl) ?_
    refine VL.q (.inl rfl) rfl (by decide) (yq_call rfl known47_Val rfl (.cons rfl (.cons rfl .nil)) (fun w hw => c_alongX (i := i) (s := s) (y := j) (z := z) (vs := vs) (W := W) (H := H) (D := D) (by first | exact Sees.root (by assumption) w hw | exact Sees.own (by repeat (first | exact List.mem_cons_self | exact List.mem_append_left _ (by assumption) | apply List.mem_cons_of_mem | apply List.mem_append_right)) w hw) (by first | exact Sees.root (by assumption) w hw | exact Sees.own (by repeat (first | exact List.mem_cons_self | exact List.mem_append_left _ (by assumption) | apply List.mem_cons_of_mem | apply List.mem_append_right)) w hw) (by first | exact Sees.root (by assumption) w hw | exact Sees.own (by repeat (first | exact List.mem_cons_self | exact List.mem_append_left _ (by assumption) | apply List.mem_cons_of_mem | apply List.mem_append_right)) w hw) (by first | exact Sees.root (by assumption) w hw | exact Sees.own (by repeat (first | exact List.mem_cons_self | exact List.mem_append_left _ (by assumption) | apply List.mem_cons_of_mem | apply List.mem_append_right)) w hw) hN hbd hW hH hD hi (by omega) (by omega))) ?_
    refine VL.s (.inl rfl) rfl (yc_store rfl sz32_Val rfl rfl (by repeat (first | exact UpdF.here | apply UpdF.there | apply UpdF.thereS)) (.inr ⟨rfl, rfl⟩) rfl (by first | exact Nat.le_of_ble_eq_true rfl | simp) (by decide) rfl) ?_
    rintro ⟨⟩
    refine VL.nil ?_
    refine VE.then_wp ?_
    refine V.ret ?_
    refine VE.then_ret ?_
    refine retC rfl (rv_cellS rfl Try.underlying32 sz32_Val (by first | exact Sees.root (by assumption) | exact Sees.own (by repeat (first | exact List.mem_cons_self | exact List.mem_append_left _ (by assumption) | apply List.mem_cons_of_mem | apply List.mem_append_right)) | exact Sees.root (hR _ (by omega)) | exact Sees.own (RowsIn.mem (by repeat (first | exact RowsIn.here | exact RowsIn.last | apply RowsIn.there | apply RowsIn.thereS)) _ (by omega)) | exact Sees.own (WRowsIn.mem (by repeat (first | exact WRowsIn.here | exact WRowsIn.last | apply WRowsIn.there | apply WRowsIn.thereS)) _ (by omega))) rfl rfl rfl) (by nofun) (fun w1 hw => ?_)
    first
      | exact ⟨congrArg vv (col_1 (vs := vs) (W := W) (H := H) (c := (i, s)) (d := (j, t)) (z := z) (by omega)).symm, hw.below⟩
      | exact ⟨congrArg vv (col_n (vs := vs) (W := W) (H := H) (c := (i, s)) (d := (j, t)) (z := z) (by omega)).symm, hw.below⟩
  · skip
    replace h1 := ic_eql' h1
    refine V.skip ?_
    refine VE.then_wp ?_
    refine V.seq ?_
    refine Dr.V.drawR [(0, 5), (1, 5), (2, 5), (3, 5), (4, 5), (5, 5), (6, 5), (7, 5), (8, 5), (9, 5), (10, 5), (11, 3)] [] [⟨some ⟨b6, 0, none⟩, [.float .f32 (z3).1, .float .f32 (z3).2.1, .float .f32 (z3).2.2], 3, 32⟩] [] mixed_Val (by kernel_rfl) (fun w hw => hw) ?_
    refine Dr.SW.p rfl (.inl rfl) rfl (by decide) (yq_load rfl fb77_Val rfl (by first | exact Sees.root (by assumption) | exact Sees.own (by (try simp only [List.append_assoc, List.cons_append, List.nil_append]); repeat (first | exact List.mem_cons_self | exact List.mem_append_left _ (by assumption) | apply List.mem_cons_of_mem | apply List.mem_append_right)) | exact Sees.root (hR _ (by omega)) | exact Sees.own (RowsIn.mem (by (try simp only [List.append_assoc, List.cons_append, List.nil_append]); repeat (first | exact RowsIn.here | exact RowsIn.last | apply RowsIn.there | apply RowsIn.thereS)) _ (by omega)) | exact Sees.own (WRowsIn.mem (by (try simp only [List.append_assoc, List.cons_append, List.nil_append]); repeat (first | exact WRowsIn.here | exact WRowsIn.last | apply WRowsIn.there | apply WRowsIn.thereS)) _ (by omega))) rfl) ?_
    refine Dr.SW.p rfl (.inl rfl) rfl (by decide) (yq_load rfl fb2_Val rfl (by first | exact Sees.root (by assumption) | exact Sees.own (by (try simp only [List.append_assoc, List.cons_append, List.nil_append]); repeat (first | exact List.mem_cons_self | exact List.mem_append_left _ (by assumption) | apply List.mem_cons_of_mem | apply List.mem_append_right)) | exact Sees.root (hR _ (by omega)) | exact Sees.own (RowsIn.mem (by (try simp only [List.append_assoc, List.cons_append, List.nil_append]); repeat (first | exact RowsIn.here | exact RowsIn.last | apply RowsIn.there | apply RowsIn.thereS)) _ (by omega)) | exact Sees.own (WRowsIn.mem (by (try simp only [List.append_assoc, List.cons_append, List.nil_append]); repeat (first | exact WRowsIn.here | exact WRowsIn.last | apply WRowsIn.there | apply WRowsIn.thereS)) _ (by omega))) rfl) ?_
    refine Dr.SW.r rfl (.inl rfl) rfl (by decide) (yr_move rfl rfl) ?_
    refine Dr.SW.p rfl (.inl rfl) rfl (by decide) (yq_call rfl known47_Val rfl (.cons rfl (.cons rfl .nil)) (fun w hw => c_alongX (i := i) (s := s) (y := j) (z := z) (vs := vs) (W := W) (H := H) (D := D) (by first | exact Sees.root (by assumption) w hw | exact Sees.own (by (try simp only [List.append_assoc, List.cons_append, List.nil_append]); repeat (first | exact List.mem_cons_self | exact List.mem_append_left _ (by assumption) | apply List.mem_cons_of_mem | apply List.mem_append_right)) w hw) (by first | exact Sees.root (by assumption) w hw | exact Sees.own (by (try simp only [List.append_assoc, List.cons_append, List.nil_append]); repeat (first | exact List.mem_cons_self | exact List.mem_append_left _ (by assumption) | apply List.mem_cons_of_mem | apply List.mem_append_right)) w hw) (by first | exact Sees.root (by assumption) w hw | exact Sees.own (by (try simp only [List.append_assoc, List.cons_append, List.nil_append]); repeat (first | exact List.mem_cons_self | exact List.mem_append_left _ (by assumption) | apply List.mem_cons_of_mem | apply List.mem_append_right)) w hw) (by first | exact Sees.root (by assumption) w hw | exact Sees.own (by (try simp only [List.append_assoc, List.cons_append, List.nil_append]); repeat (first | exact List.mem_cons_self | exact List.mem_append_left _ (by assumption) | apply List.mem_cons_of_mem | apply List.mem_append_right)) w hw) hN hbd hW hH hD hi (by omega) (by omega))) ?_
    refine Dr.SW.p rfl (.inl rfl) rfl (by decide) (yq_load rfl fb77_Val rfl (by first | exact Sees.root (by assumption) | exact Sees.own (by (try simp only [List.append_assoc, List.cons_append, List.nil_append]); repeat (first | exact List.mem_cons_self | exact List.mem_append_left _ (by assumption) | apply List.mem_cons_of_mem | apply List.mem_append_right)) | exact Sees.root (hR _ (by omega)) | exact Sees.own (RowsIn.mem (by (try simp only [List.append_assoc, List.cons_append, List.nil_append]); repeat (first | exact RowsIn.here | exact RowsIn.last | apply RowsIn.there | apply RowsIn.thereS)) _ (by omega)) | exact Sees.own (WRowsIn.mem (by (try simp only [List.append_assoc, List.cons_append, List.nil_append]); repeat (first | exact WRowsIn.here | exact WRowsIn.last | apply WRowsIn.there | apply WRowsIn.thereS)) _ (by omega))) rfl) ?_
    refine Dr.SW.p rfl (.inl rfl) rfl (by decide) (yq_load rfl fb2_Val rfl (by first | exact Sees.root (by assumption) | exact Sees.own (by (try simp only [List.append_assoc, List.cons_append, List.nil_append]); repeat (first | exact List.mem_cons_self | exact List.mem_append_left _ (by assumption) | apply List.mem_cons_of_mem | apply List.mem_append_right)) | exact Sees.root (hR _ (by omega)) | exact Sees.own (RowsIn.mem (by (try simp only [List.append_assoc, List.cons_append, List.nil_append]); repeat (first | exact RowsIn.here | exact RowsIn.last | apply RowsIn.there | apply RowsIn.thereS)) _ (by omega)) | exact Sees.own (WRowsIn.mem (by (try simp only [List.append_assoc, List.cons_append, List.nil_append]); repeat (first | exact WRowsIn.here | exact WRowsIn.last | apply WRowsIn.there | apply WRowsIn.thereS)) _ (by omega))) rfl) ?_
    refine Dr.SW.r rfl (.inl rfl) rfl (by decide) (yr_addN (j + 1) rfl rfl rfl (by push_cast; rfl) (by omega)) ?_
    refine Dr.SW.r rfl (.inl rfl) rfl (by decide) (yr_move rfl rfl) ?_
    refine Dr.SW.p rfl (.inl rfl) rfl (by decide) (yq_call rfl known47_Val rfl (.cons rfl (.cons rfl .nil)) (fun w hw => c_alongX (i := i) (s := s) (y := j + 1) (z := z) (vs := vs) (W := W) (H := H) (D := D) (by first | exact Sees.root (by assumption) w hw | exact Sees.own (by (try simp only [List.append_assoc, List.cons_append, List.nil_append]); repeat (first | exact List.mem_cons_self | exact List.mem_append_left _ (by assumption) | apply List.mem_cons_of_mem | apply List.mem_append_right)) w hw) (by first | exact Sees.root (by assumption) w hw | exact Sees.own (by (try simp only [List.append_assoc, List.cons_append, List.nil_append]); repeat (first | exact List.mem_cons_self | exact List.mem_append_left _ (by assumption) | apply List.mem_cons_of_mem | apply List.mem_append_right)) w hw) (by first | exact Sees.root (by assumption) w hw | exact Sees.own (by (try simp only [List.append_assoc, List.cons_append, List.nil_append]); repeat (first | exact List.mem_cons_self | exact List.mem_append_left _ (by assumption) | apply List.mem_cons_of_mem | apply List.mem_append_right)) w hw) (by first | exact Sees.root (by assumption) w hw | exact Sees.own (by (try simp only [List.append_assoc, List.cons_append, List.nil_append]); repeat (first | exact List.mem_cons_self | exact List.mem_append_left _ (by assumption) | apply List.mem_cons_of_mem | apply List.mem_append_right)) w hw) hN hbd hW hH hD hi (by omega) (by omega))) ?_
    refine Dr.SW.p rfl (.inl rfl) rfl (by decide) (yq_load rfl fb25_Val rfl (by first | exact Sees.root (by assumption) | exact Sees.own (by (try simp only [List.append_assoc, List.cons_append, List.nil_append]); repeat (first | exact List.mem_cons_self | exact List.mem_append_left _ (by assumption) | apply List.mem_cons_of_mem | apply List.mem_append_right)) | exact Sees.root (hR _ (by omega)) | exact Sees.own (RowsIn.mem (by (try simp only [List.append_assoc, List.cons_append, List.nil_append]); repeat (first | exact RowsIn.here | exact RowsIn.last | apply RowsIn.there | apply RowsIn.thereS)) _ (by omega)) | exact Sees.own (WRowsIn.mem (by (try simp only [List.append_assoc, List.cons_append, List.nil_append]); repeat (first | exact WRowsIn.here | exact WRowsIn.last | apply WRowsIn.there | apply WRowsIn.thereS)) _ (by omega))) rfl) ?_
    refine Dr.SW.p rfl (.inl rfl) rfl (by decide) (yq_callf rfl known48_Val (.cons rfl (.cons rfl (.cons rfl .nil))) (fun w hw => c_between)) ?_
    refine Dr.SW.s rfl (.inl rfl) rfl (yc_store rfl sz32_Val rfl rfl (Dr.UpdF.app (by repeat (first | exact UpdF.here | apply UpdF.there | apply UpdF.thereS))) (.inr ⟨rfl, rfl⟩) rfl (by first | exact Nat.le_of_ble_eq_true rfl | simp) (by decide) rfl) ?_
    rintro ⟨⟩
    refine Dr.SW.done ?_
    refine Dr.eqO (by simp only [List.append_nil, List.append_assoc, List.cons_append, List.nil_append] <;> rfl) ?_
    refine VE.then_wp ?_
    refine V.ret ?_
    refine retC rfl (rv_cellS rfl Try.underlying32 sz32_Val (by first | exact Sees.root (by assumption) | exact Sees.own (by repeat (first | exact List.mem_cons_self | exact List.mem_append_left _ (by assumption) | apply List.mem_cons_of_mem | apply List.mem_append_right)) | exact Sees.root (hR _ (by omega)) | exact Sees.own (RowsIn.mem (by repeat (first | exact RowsIn.here | exact RowsIn.last | apply RowsIn.there | apply RowsIn.thereS)) _ (by omega)) | exact Sees.own (WRowsIn.mem (by repeat (first | exact WRowsIn.here | exact WRowsIn.last | apply WRowsIn.there | apply WRowsIn.thereS)) _ (by omega))) rfl rfl rfl) (by nofun) (fun w1 hw => ?_)
    first
      | exact ⟨congrArg vv (col_1 (vs := vs) (W := W) (H := H) (c := (i, s)) (d := (j, t)) (z := z) (by omega)).symm, hw.below⟩
      | exact ⟨congrArg vv (col_n (vs := vs) (W := W) (H := H) (c := (i, s)) (d := (j, t)) (z := z) (by omega)).symm, hw.below⟩

theorem c_valI {w : World} {f1 f2 f3 st W H D : Nat} {a : Option Addr} {c : Nat} {vs : List V3} {p1 p2 p3 : Nat} (hA : Cl w a (vl vs)) (hN : vs.length = W * H * D) (hbd : W * H * D ≤ 216) (hW : 1 ≤ W ∧ W ≤ 216) (hH : 1 ≤ H ∧ H ≤ 216) (hD : 1 ≤ D ∧ D ≤ 216) : Pure Try.prog 33 [.agg #[.float .f32 f1, .float .f32 f2, .float .f32 f3, .float .f32 st, .int .i64 (W : Int), .int .i64 (H : Int), .int .i64 (D : Int), .slice a vs.length c], vv (p1, p2, p3)] w (vv (valI vs (f1, f2, f3) st W H D (p1, p2, p3))) := by
  refine Pure.enter Try.func33 rfl Try.ntmps33 (Nat.le_of_ble_eq_true rfl) ?_
  have hci : (W = 1 → (celI (crd p1 f1 st) (W : Int)).1 = 0) ∧ (W ≠ 1 → (celI (crd p1 f1 st) (W : Int)).1 + 1 < W) := by
    obtain ⟨u1, u2⟩ := cel_lt (u := crd p1 f1 st) (n := (W : Int)) (by omega)
    exact ⟨fun h => u1 (by omega), fun h => by have := u2 (by omega); omega⟩
  have hcj : (H = 1 → (celI (crd p2 f2 st) (H : Int)).1 = 0) ∧ (H ≠ 1 → (celI (crd p2 f2 st) (H : Int)).1 + 1 < H) := by
    obtain ⟨u1, u2⟩ := cel_lt (u := crd p2 f2 st) (n := (H : Int)) (by omega)
    exact ⟨fun h => u1 (by omega), fun h => by have := u2 (by omega); omega⟩
  have hck : (D = 1 → (celI (crd p3 f3 st) (D : Int)).1 = 0) ∧ (D ≠ 1 → (celI (crd p3 f3 st) (D : Int)).1 + 1 < D) := by
    obtain ⟨u1, u2⟩ := cel_lt (u := crd p3 f3 st) (n := (D : Int)) (by omega)
    exact ⟨fun h => u1 (by omega), fun h => by have := u2 (by omega); omega⟩
  refine V.seq ?_
  refine V.region ?_
  refine VL.new1 (.inl rfl) rfl (by decide) (yn_box rfl rfl (.inr ⟨rfl, rfl⟩)) ?_
  intro b2
  refine VL.new1 (.inl rfl) rfl (by decide) (yn_box rfl rfl (.inr ⟨rfl, rfl⟩)) ?_
  intro b3
  refine VL.new1 (.inl rfl) rfl (by decide) (yn_alloc rfl zero32_Val rfl) ?_
  intro b4
  refine VL.nil ?_
  refine VE.then_wp ?_
  refine V.seq ?_
  refine V.region ?_
  refine VL.q (.inl rfl) rfl (by decide) (yq_loadS rfl Try.underlying32 sz32_Val rfl (by first | exact Sees.root (by assumption) | exact Sees.own (by repeat (first | exact List.mem_cons_self | exact List.mem_append_left _ (by assumption) | apply List.mem_cons_of_mem | apply List.mem_append_right)) | exact Sees.root (hR _ (by omega)) | exact Sees.own (RowsIn.mem (by repeat (first | exact RowsIn.here | exact RowsIn.last | apply RowsIn.there | apply RowsIn.thereS)) _ (by omega)) | exact Sees.own (WRowsIn.mem (by repeat (first | exact WRowsIn.here | exact WRowsIn.last | apply WRowsIn.there | apply WRowsIn.thereS)) _ (by omega))) rfl rfl rfl) ?_
  refine VL.r (.inl rfl) rfl (by decide) (yr_fieldAddr rfl Try.underlying35 rfl rfl sz32_Val (by decide) rfl) ?_
  refine VL.q (.inl rfl) rfl (by decide) (yq_loadS rfl Try.underlying32 sz32_Val rfl (by first | exact Sees.root (by assumption) | exact Sees.own (by repeat (first | exact List.mem_cons_self | exact List.mem_append_left _ (by assumption) | apply List.mem_cons_of_mem | apply List.mem_append_right)) | exact Sees.root (hR _ (by omega)) | exact Sees.own (RowsIn.mem (by repeat (first | exact RowsIn.here | exact RowsIn.last | apply RowsIn.there | apply RowsIn.thereS)) _ (by omega)) | exact Sees.own (WRowsIn.mem (by repeat (first | exact WRowsIn.here | exact WRowsIn.last | apply WRowsIn.there | apply WRowsIn.thereS)) _ (by omega))) rfl rfl rfl) ?_
  refine VL.q (.inl rfl) rfl (by decide) (yq_callf rfl known32_Val (.cons rfl (.cons rfl .nil)) (fun w hw => c_sub3)) ?_
  refine VL.new1 (.inl rfl) rfl (by decide) (yn_alloc rfl zero32_Val rfl) ?_
  intro b5
  refine VL.s (.inl rfl) rfl (yc_store rfl sz32_Val rfl rfl (by repeat (first | exact UpdF.here | apply UpdF.there | apply UpdF.thereS)) (.inr ⟨rfl, rfl⟩) rfl (by first | exact Nat.le_of_ble_eq_true rfl | simp) (by decide) rfl) ?_
  rintro ⟨⟩
  refine VL.nil ?_
  refine VE.then_wp ?_
  refine V.seq ?_
  refine V.region ?_
  refine VL.r (.inl rfl) rfl (by decide) (yr_fieldAddr rfl Try.underlying32 rfl rfl sz25_Val (by decide) rfl) ?_
  refine VL.q (.inl rfl) rfl (by decide) (yq_load rfl fb25_Val rfl (by first | exact Sees.root (by assumption) | exact Sees.own (by repeat (first | exact List.mem_cons_self | exact List.mem_append_left _ (by assumption) | apply List.mem_cons_of_mem | apply List.mem_append_right)) | exact Sees.root (hR _ (by omega)) | exact Sees.own (RowsIn.mem (by repeat (first | exact RowsIn.here | exact RowsIn.last | apply RowsIn.there | apply RowsIn.thereS)) _ (by omega)) | exact Sees.own (WRowsIn.mem (by repeat (first | exact WRowsIn.here | exact WRowsIn.last | apply WRowsIn.there | apply WRowsIn.thereS)) _ (by omega))) rfl) ?_
  refine VL.r (.inl rfl) rfl (by decide) (yr_fieldAddr rfl Try.underlying35 rfl rfl sz25_Val (by decide) rfl) ?_
  refine VL.q (.inl rfl) rfl (by decide) (yq_load rfl fb25_Val rfl (by first | exact Sees.root (by assumption) | exact Sees.own (by repeat (first | exact List.mem_cons_self | exact List.mem_append_left _ (by assumption) | apply List.mem_cons_of_mem | apply List.mem_append_right)) | exact Sees.root (hR _ (by omega)) | exact Sees.own (RowsIn.mem (by repeat (first | exact RowsIn.here | exact RowsIn.last | apply RowsIn.there | apply RowsIn.thereS)) _ (by omega)) | exact Sees.own (WRowsIn.mem (by repeat (first | exact WRowsIn.here | exact WRowsIn.last | apply WRowsIn.there | apply WRowsIn.thereS)) _ (by omega))) rfl) ?_
  refine VL.r (.inl rfl) rfl (by decide) (yr_float rfl (.inr (.inr (.inr rfl))) rfl rfl) ?_
  refine VL.r (.inl rfl) rfl (by decide) (yr_fieldAddr rfl Try.underlying35 rfl rfl sz2_Val (by decide) rfl) ?_
  refine VL.q (.inl rfl) rfl (by decide) (yq_load rfl fb2_Val rfl (by first | exact Sees.root (by assumption) | exact Sees.own (by repeat (first | exact List.mem_cons_self | exact List.mem_append_left _ (by assumption) | apply List.mem_cons_of_mem | apply List.mem_append_right)) | exact Sees.root (hR _ (by omega)) | exact Sees.own (RowsIn.mem (by repeat (first | exact RowsIn.here | exact RowsIn.last | apply RowsIn.there | apply RowsIn.thereS)) _ (by omega)) | exact Sees.own (WRowsIn.mem (by repeat (first | exact WRowsIn.here | exact WRowsIn.last | apply WRowsIn.there | apply WRowsIn.thereS)) _ (by omega))) rfl) ?_
  refine VL.q (.inl rfl) rfl (by decide) (yq_callf rfl known46_Val (.cons rfl (.cons rfl .nil)) (fun w hw => (c_cellI (u := crd p1 f1 st) (n := (W : Int)) (by omega)))) ?_
  refine VL.r (.inl rfl) rfl (by decide) (yr_move rfl rfl) ?_
  refine VL.r (.inl rfl) rfl (by decide) (yr_extract rfl rfl rfl (by nofun)) ?_
  refine VL.r (.inl rfl) rfl (by decide) (yr_extract rfl rfl rfl (by nofun)) ?_
  refine VL.new1 (.inl rfl) rfl (by decide) (yn_alloc rfl zero2_Val rfl) ?_
  intro b6
  refine VL.new1 (.inl rfl) rfl (by decide) (yn_alloc rfl zero25_Val rfl) ?_
  intro b7
  refine VL.s (.inl rfl) rfl (yc_store rfl sz2_Val rfl rfl (by repeat (first | exact UpdF.here | apply UpdF.there | apply UpdF.thereS)) (.inl ⟨rfl, rfl⟩) rfl (by first | exact Nat.le_of_ble_eq_true rfl | simp) (by decide) rfl) ?_
  rintro ⟨⟩
  refine VL.s (.inl rfl) rfl (yc_store rfl sz25_Val rfl rfl (by repeat (first | exact UpdF.here | apply UpdF.there | apply UpdF.thereS)) (.inl ⟨rfl, rfl⟩) rfl (by first | exact Nat.le_of_ble_eq_true rfl | simp) (by decide) rfl) ?_
  rintro ⟨⟩
  refine VL.nil ?_
  refine VE.then_wp ?_
  refine V.seq ?_
  refine V.region ?_
  refine VL.r (.inl rfl) rfl (by decide) (yr_fieldAddr rfl Try.underlying32 rfl rfl sz25_Val (by decide) rfl) ?_
  refine VL.q (.inl rfl) rfl (by decide) (yq_load rfl fb25_Val rfl (by first | exact Sees.root (by assumption) | exact Sees.own (by repeat (first | exact List.mem_cons_self | exact List.mem_append_left _ (by assumption) | apply List.mem_cons_of_mem | apply List.mem_append_right)) | exact Sees.root (hR _ (by omega)) | exact Sees.own (RowsIn.mem (by repeat (first | exact RowsIn.here | exact RowsIn.last | apply RowsIn.there | apply RowsIn.thereS)) _ (by omega)) | exact Sees.own (WRowsIn.mem (by repeat (first | exact WRowsIn.here | exact WRowsIn.last | apply WRowsIn.there | apply WRowsIn.thereS)) _ (by omega))) rfl) ?_
  refine VL.r (.inl rfl) rfl (by decide) (yr_fieldAddr rfl Try.underlying35 rfl rfl sz25_Val (by decide) rfl) ?_
  refine VL.q (.inl rfl) rfl (by decide) (yq_load rfl fb25_Val rfl (by first | exact Sees.root (by assumption) | exact Sees.own (by repeat (first | exact List.mem_cons_self | exact List.mem_append_left _ (by assumption) | apply List.mem_cons_of_mem | apply List.mem_append_right)) | exact Sees.root (hR _ (by omega)) | exact Sees.own (RowsIn.mem (by repeat (first | exact RowsIn.here | exact RowsIn.last | apply RowsIn.there | apply RowsIn.thereS)) _ (by omega)) | exact Sees.own (WRowsIn.mem (by repeat (first | exact WRowsIn.here | exact WRowsIn.last | apply WRowsIn.there | apply WRowsIn.thereS)) _ (by omega))) rfl) ?_
  refine VL.r (.inl rfl) rfl (by decide) (yr_float rfl (.inr (.inr (.inr rfl))) rfl rfl) ?_
  refine VL.r (.inl rfl) rfl (by decide) (yr_fieldAddr rfl Try.underlying35 rfl rfl sz2_Val (by decide) rfl) ?_
  refine VL.q (.inl rfl) rfl (by decide) (yq_load rfl fb2_Val rfl (by first | exact Sees.root (by assumption) | exact Sees.own (by repeat (first | exact List.mem_cons_self | exact List.mem_append_left _ (by assumption) | apply List.mem_cons_of_mem | apply List.mem_append_right)) | exact Sees.root (hR _ (by omega)) | exact Sees.own (RowsIn.mem (by repeat (first | exact RowsIn.here | exact RowsIn.last | apply RowsIn.there | apply RowsIn.thereS)) _ (by omega)) | exact Sees.own (WRowsIn.mem (by repeat (first | exact WRowsIn.here | exact WRowsIn.last | apply WRowsIn.there | apply WRowsIn.thereS)) _ (by omega))) rfl) ?_
  refine VL.q (.inl rfl) rfl (by decide) (yq_callf rfl known46_Val (.cons rfl (.cons rfl .nil)) (fun w hw => (c_cellI (u := crd p2 f2 st) (n := (H : Int)) (by omega)))) ?_
  refine VL.r (.inl rfl) rfl (by decide) (yr_move rfl rfl) ?_
  refine VL.r (.inl rfl) rfl (by decide) (yr_extract rfl rfl rfl (by nofun)) ?_
  refine VL.r (.inl rfl) rfl (by decide) (yr_extract rfl rfl rfl (by nofun)) ?_
  refine VL.new1 (.inl rfl) rfl (by decide) (yn_alloc rfl zero2_Val rfl) ?_
  intro b8
  refine VL.new1 (.inl rfl) rfl (by decide) (yn_alloc rfl zero25_Val rfl) ?_
  intro b9
  refine VL.s (.inl rfl) rfl (yc_store rfl sz2_Val rfl rfl (by repeat (first | exact UpdF.here | apply UpdF.there | apply UpdF.thereS)) (.inl ⟨rfl, rfl⟩) rfl (by first | exact Nat.le_of_ble_eq_true rfl | simp) (by decide) rfl) ?_
  rintro ⟨⟩
  refine VL.s (.inl rfl) rfl (yc_store rfl sz25_Val rfl rfl (by repeat (first | exact UpdF.here | apply UpdF.there | apply UpdF.thereS)) (.inl ⟨rfl, rfl⟩) rfl (by first | exact Nat.le_of_ble_eq_true rfl | simp) (by decide) rfl) ?_
  rintro ⟨⟩
  refine VL.nil ?_
  refine VE.then_wp ?_
  refine V.seq ?_
  refine V.region ?_
  refine VL.r (.inl rfl) rfl (by decide) (yr_fieldAddr rfl Try.underlying32 rfl rfl sz25_Val (by decide) rfl) ?_
  refine VL.q (.inl rfl) rfl (by decide) (yq_load rfl fb25_Val rfl (by first | exact Sees.root (by assumption) | exact Sees.own (by repeat (first | exact List.mem_cons_self | exact List.mem_append_left _ (by assumption) | apply List.mem_cons_of_mem | apply List.mem_append_right)) | exact Sees.root (hR _ (by omega)) | exact Sees.own (RowsIn.mem (by repeat (first | exact RowsIn.here | exact RowsIn.last | apply RowsIn.there | apply RowsIn.thereS)) _ (by omega)) | exact Sees.own (WRowsIn.mem (by repeat (first | exact WRowsIn.here | exact WRowsIn.last | apply WRowsIn.there | apply WRowsIn.thereS)) _ (by omega))) rfl) ?_
  refine VL.r (.inl rfl) rfl (by decide) (yr_fieldAddr rfl Try.underlying35 rfl rfl sz25_Val (by decide) rfl) ?_
  refine VL.q (.inl rfl) rfl (by decide) (yq_load rfl fb25_Val rfl (by first | exact Sees.root (by assumption) | exact Sees.own (by repeat (first | exact List.mem_cons_self | exact List.mem_append_left _ (by assumption) | apply List.mem_cons_of_mem | apply List.mem_append_right)) | exact Sees.root (hR _ (by omega)) | exact Sees.own (RowsIn.mem (by repeat (first | exact RowsIn.here | exact RowsIn.last | apply RowsIn.there | apply RowsIn.thereS)) _ (by omega)) | exact Sees.own (WRowsIn.mem (by repeat (first | exact WRowsIn.here | exact WRowsIn.last | apply WRowsIn.there | apply WRowsIn.thereS)) _ (by omega))) rfl) ?_
  refine VL.r (.inl rfl) rfl (by decide) (yr_float rfl (.inr (.inr (.inr rfl))) rfl rfl) ?_
  refine VL.r (.inl rfl) rfl (by decide) (yr_fieldAddr rfl Try.underlying35 rfl rfl sz2_Val (by decide) rfl) ?_
  refine VL.q (.inl rfl) rfl (by decide) (yq_load rfl fb2_Val rfl (by first | exact Sees.root (by assumption) | exact Sees.own (by repeat (first | exact List.mem_cons_self | exact List.mem_append_left _ (by assumption) | apply List.mem_cons_of_mem | apply List.mem_append_right)) | exact Sees.root (hR _ (by omega)) | exact Sees.own (RowsIn.mem (by repeat (first | exact RowsIn.here | exact RowsIn.last | apply RowsIn.there | apply RowsIn.thereS)) _ (by omega)) | exact Sees.own (WRowsIn.mem (by repeat (first | exact WRowsIn.here | exact WRowsIn.last | apply WRowsIn.there | apply WRowsIn.thereS)) _ (by omega))) rfl) ?_
  refine VL.q (.inl rfl) rfl (by decide) (yq_callf rfl known46_Val (.cons rfl (.cons rfl .nil)) (fun w hw => (c_cellI (u := crd p3 f3 st) (n := (D : Int)) (by omega)))) ?_
  refine VL.r (.inl rfl) rfl (by decide) (yr_move rfl rfl) ?_
  refine VL.r (.inl rfl) rfl (by decide) (yr_extract rfl rfl rfl (by nofun)) ?_
  refine VL.r (.inl rfl) rfl (by decide) (yr_extract rfl rfl rfl (by nofun)) ?_
  refine VL.r (.inl rfl) rfl (by decide) (yr_assign rfl rfl) ?_
  refine VL.r (.inl rfl) rfl (by decide) (yr_assign rfl rfl) ?_
  refine VL.nil ?_
  refine VE.then_wp ?_
  refine V.seq ?_
  refine V.region ?_
  refine VL.r (.inl rfl) rfl (by decide) (yr_func3 rfl rfl rfl rfl) ?_
  refine VL.new1 (.inl rfl) rfl (by decide) (yn_alloc rfl zero77_Val rfl) ?_
  intro b12
  refine VL.s (.inl rfl) rfl (yc_store rfl sz77_Val rfl rfl (by repeat (first | exact UpdF.here | apply UpdF.there | apply UpdF.thereS)) (.inl ⟨rfl, rfl⟩) rfl (by first | exact Nat.le_of_ble_eq_true rfl | simp) (by decide) rfl) ?_
  rintro ⟨⟩
  refine VL.nil ?_
  refine VE.then_wp ?_
  refine V.seq ?_
  refine V.region ?_
  refine VL.r (.inl rfl) rfl (by decide) (yr_func4 rfl rfl rfl rfl rfl) ?_
  refine VL.r (.inl rfl) rfl (by decide) (yr_assign rfl rfl) ?_
  refine VL.nil ?_
  refine VE.then_wp ?_
  refine V.seq ?_
  refine V.seq ?_
  refine V.region ?_
  refine VL.r (.inl rfl) rfl (by decide) (yr_fieldAddr rfl Try.underlying35 rfl rfl sz2_Val (by decide) rfl) ?_
  refine VL.q (.inl rfl) rfl (by decide) (yq_load rfl fb2_Val rfl (by first | exact Sees.root (by assumption) | exact Sees.own (by repeat (first | exact List.mem_cons_self | exact List.mem_append_left _ (by assumption) | apply List.mem_cons_of_mem | apply List.mem_append_right)) | exact Sees.root (hR _ (by omega)) | exact Sees.own (RowsIn.mem (by repeat (first | exact RowsIn.here | exact RowsIn.last | apply RowsIn.there | apply RowsIn.thereS)) _ (by omega)) | exact Sees.own (WRowsIn.mem (by repeat (first | exact WRowsIn.here | exact WRowsIn.last | apply WRowsIn.there | apply WRowsIn.thereS)) _ (by omega))) rfl) ?_
  refine VL.r (.inl rfl) rfl (by decide) (yr_icmp rfl (.inl rfl) rfl rfl) ?_
  refine VL.nil ?_
  refine VE.then_wp ?_
  refine V.cond rfl (fun h1 => ?_) (fun h1 => ?_)
  · skip
    replace h1 := ic_eql h1
    refine V.seq ?_
    refine V.region ?_
    refine VL.r (.inl rfl) rfl (by decide) (yr_move rfl rfl) ?_
    refine VL.r (.inl rfl) rfl (by decide) (yr_move rfl rfl) ?_
    refine VL.q (.inl rfl) rfl (by decide) (yq_call rfl known49_Val rfl (.cons rfl .nil) (fun w hw => c_alongY (i := (celI (crd p1 f1 st) (W : Int)).1) (s := (celI (crd p1 f1 st) (W : Int)).2) (j := (celI (crd p2 f2 st) (H : Int)).1) (t := (celI (crd p2 f2 st) (H : Int)).2) (z := (celI (crd p3 f3 st) (D : Int)).1) (vs := vs) (W := W) (H := H) (D := D) (by first | exact Sees.root (by assumption) w hw | exact Sees.own (by repeat (first | exact List.mem_cons_self | exact List.mem_append_left _ (by assumption) | apply List.mem_cons_of_mem | apply List.mem_append_right)) w hw) (by first | exact Sees.root (by assumption) w hw | exact Sees.own (by repeat (first | exact List.mem_cons_self | exact List.mem_append_left _ (by assumption) | apply List.mem_cons_of_mem | apply List.mem_append_right)) w hw) (by first | exact Sees.root (by assumption) w hw | exact Sees.own (by repeat (first | exact List.mem_cons_self | exact List.mem_append_left _ (by assumption) | apply List.mem_cons_of_mem | apply List.mem_append_right)) w hw) (by first | exact Sees.root (by assumption) w hw | exact Sees.own (by repeat (first | exact List.mem_cons_self | exact List.mem_append_left _ (by assumption) | apply List.mem_cons_of_mem | apply List.mem_append_right)) w hw) (by first | exact Sees.root (by assumption) w hw | exact Sees.own (by repeat (first | exact List.mem_cons_self | exact List.mem_append_left _ (by assumption) | apply List.mem_cons_of_mem | apply List.mem_append_right)) w hw) (by first | exact Sees.root (by assumption) w hw | exact Sees.own (by repeat (first | exact List.mem_cons_self | exact List.mem_append_left _ (by assumption) | apply List.mem_cons_of_mem | apply List.mem_append_right)) w hw) (by first | exact Sees.root (by assumption) w hw | exact Sees.own (by repeat (first | exact List.mem_cons_self | exact List.mem_append_left _ (by assumption) | apply List.mem_cons_of_mem | apply List.mem_append_right)) w hw) hN hbd hW hH hD hci hcj (by omega))) ?_
    refine VL.s (.inl rfl) rfl (yc_store rfl sz32_Val rfl rfl (by repeat (first | exact UpdF.here | apply UpdF.there | apply UpdF.thereS)) (.inr ⟨rfl, rfl⟩) rfl (by first | exact Nat.le_of_ble_eq_true rfl | simp) (by decide) rfl) ?_
    rintro ⟨⟩
    refine VL.nil ?_
    refine VE.then_wp ?_
    refine V.ret ?_
    refine VE.then_ret ?_
    refine retC rfl (rv_cellS rfl Try.underlying32 sz32_Val (by first | exact Sees.root (by assumption) | exact Sees.own (by repeat (first | exact List.mem_cons_self | exact List.mem_append_left _ (by assumption) | apply List.mem_cons_of_mem | apply List.mem_append_right)) | exact Sees.root (hR _ (by omega)) | exact Sees.own (RowsIn.mem (by repeat (first | exact RowsIn.here | exact RowsIn.last | apply RowsIn.there | apply RowsIn.thereS)) _ (by omega)) | exact Sees.own (WRowsIn.mem (by repeat (first | exact WRowsIn.here | exact WRowsIn.last | apply WRowsIn.there | apply WRowsIn.thereS)) _ (by omega))) rfl rfl rfl) (by nofun) (fun w1 hw => ?_)
    first
      | exact ⟨congrArg vv (val_1 (vs := vs) (W := W) (H := H) (D := D) (c := (celI (crd p1 f1 st) (W : Int))) (d := (celI (crd p2 f2 st) (H : Int))) (e := (celI (crd p3 f3 st) (D : Int))) (by omega)).symm, hw.below⟩
      | exact ⟨congrArg vv (val_n (vs := vs) (W := W) (H := H) (D := D) (c := (celI (crd p1 f1 st) (W : Int))) (d := (celI (crd p2 f2 st) (H : Int))) (e := (celI (crd p3 f3 st) (D : Int))) (by omega)).symm, hw.below⟩
  · skip
    replace h1 := ic_eql' h1
    refine V.skip ?_
    refine VE.then_wp ?_
    refine V.seq ?_
    refine V.region ?_
    refine VL.r (.inl rfl) rfl (by decide) (yr_move rfl rfl) ?_
    refine VL.r (.inl rfl) rfl (by decide) (yr_move rfl rfl) ?_
    refine VL.q (.inl rfl) rfl (by decide) (yq_call rfl known49_Val rfl (.cons rfl .nil) (fun w hw => c_alongY (i := (celI (crd p1 f1 st) (W : Int)).1) (s := (celI (crd p1 f1 st) (W : Int)).2) (j := (celI (crd p2 f2 st) (H : Int)).1) (t := (celI (crd p2 f2 st) (H : Int)).2) (z := (celI (crd p3 f3 st) (D : Int)).1) (vs := vs) (W := W) (H := H) (D := D) (by first | exact Sees.root (by assumption) w hw | exact Sees.own (by repeat (first | exact List.mem_cons_self | exact List.mem_append_left _ (by assumption) | apply List.mem_cons_of_mem | apply List.mem_append_right)) w hw) (by first | exact Sees.root (by assumption) w hw | exact Sees.own (by repeat (first | exact List.mem_cons_self | exact List.mem_append_left _ (by assumption) | apply List.mem_cons_of_mem | apply List.mem_append_right)) w hw) (by first | exact Sees.root (by assumption) w hw | exact Sees.own (by repeat (first | exact List.mem_cons_self | exact List.mem_append_left _ (by assumption) | apply List.mem_cons_of_mem | apply List.mem_append_right)) w hw) (by first | exact Sees.root (by assumption) w hw | exact Sees.own (by repeat (first | exact List.mem_cons_self | exact List.mem_append_left _ (by assumption) | apply List.mem_cons_of_mem | apply List.mem_append_right)) w hw) (by first | exact Sees.root (by assumption) w hw | exact Sees.own (by repeat (first | exact List.mem_cons_self | exact List.mem_append_left _ (by assumption) | apply List.mem_cons_of_mem | apply List.mem_append_right)) w hw) (by first | exact Sees.root (by assumption) w hw | exact Sees.own (by repeat (first | exact List.mem_cons_self | exact List.mem_append_left _ (by assumption) | apply List.mem_cons_of_mem | apply List.mem_append_right)) w hw) (by first | exact Sees.root (by assumption) w hw | exact Sees.own (by repeat (first | exact List.mem_cons_self | exact List.mem_append_left _ (by assumption) | apply List.mem_cons_of_mem | apply List.mem_append_right)) w hw) hN hbd hW hH hD hci hcj (by omega))) ?_
    refine VL.r (.inl rfl) rfl (by decide) (yr_move rfl rfl) ?_
    refine VL.r (.inl rfl) rfl (by decide) (yr_move rfl rfl) ?_
    refine VL.r (.inl rfl) rfl (by decide) (yr_addN ((celI (crd p3 f3 st) (D : Int)).1 + 1) rfl rfl rfl (by push_cast; rfl) (by omega)) ?_
    refine VL.q (.inl rfl) rfl (by decide) (yq_call rfl known49_Val rfl (.cons rfl .nil) (fun w hw => c_alongY (i := (celI (crd p1 f1 st) (W : Int)).1) (s := (celI (crd p1 f1 st) (W : Int)).2) (j := (celI (crd p2 f2 st) (H : Int)).1) (t := (celI (crd p2 f2 st) (H : Int)).2) (z := (celI (crd p3 f3 st) (D : Int)).1 + 1) (vs := vs) (W := W) (H := H) (D := D) (by first | exact Sees.root (by assumption) w hw | exact Sees.own (by repeat (first | exact List.mem_cons_self | exact List.mem_append_left _ (by assumption) | apply List.mem_cons_of_mem | apply List.mem_append_right)) w hw) (by first | exact Sees.root (by assumption) w hw | exact Sees.own (by repeat (first | exact List.mem_cons_self | exact List.mem_append_left _ (by assumption) | apply List.mem_cons_of_mem | apply List.mem_append_right)) w hw) (by first | exact Sees.root (by assumption) w hw | exact Sees.own (by repeat (first | exact List.mem_cons_self | exact List.mem_append_left _ (by assumption) | apply List.mem_cons_of_mem | apply List.mem_append_right)) w hw) (by first | exact Sees.root (by assumption) w hw | exact Sees.own (by repeat (first | exact List.mem_cons_self | exact List.mem_append_left _ (by assumption) | apply List.mem_cons_of_mem | apply List.mem_append_right)) w hw) (by first | exact Sees.root (by assumption) w hw | exact Sees.own (by repeat (first | exact List.mem_cons_self | exact List.mem_append_left _ (by assumption) | apply List.mem_cons_of_mem | apply List.mem_append_right)) w hw) (by first | exact Sees.root (by assumption) w hw | exact Sees.own (by repeat (first | exact List.mem_cons_self | exact List.mem_append_left _ (by assumption) | apply List.mem_cons_of_mem | apply List.mem_append_right)) w hw) (by first | exact Sees.root (by assumption) w hw | exact Sees.own (by repeat (first | exact List.mem_cons_self | exact List.mem_append_left _ (by assumption) | apply List.mem_cons_of_mem | apply List.mem_append_right)) w hw) hN hbd hW hH hD hci hcj (by omega))) ?_
    refine VL.r (.inl rfl) rfl (by decide) (yr_move rfl rfl) ?_
    refine VL.q (.inl rfl) rfl (by decide) (yq_callf rfl known48_Val (.cons rfl (.cons rfl (.cons rfl .nil))) (fun w hw => c_between)) ?_
    refine VL.s (.inl rfl) rfl (yc_store rfl sz32_Val rfl rfl (by repeat (first | exact UpdF.here | apply UpdF.there | apply UpdF.thereS)) (.inr ⟨rfl, rfl⟩) rfl (by first | exact Nat.le_of_ble_eq_true rfl | simp) (by decide) rfl) ?_
    rintro ⟨⟩
    refine VL.nil ?_
    refine VE.then_wp ?_
    refine V.ret ?_
    refine retC rfl (rv_cellS rfl Try.underlying32 sz32_Val (by first | exact Sees.root (by assumption) | exact Sees.own (by repeat (first | exact List.mem_cons_self | exact List.mem_append_left _ (by assumption) | apply List.mem_cons_of_mem | apply List.mem_append_right)) | exact Sees.root (hR _ (by omega)) | exact Sees.own (RowsIn.mem (by repeat (first | exact RowsIn.here | exact RowsIn.last | apply RowsIn.there | apply RowsIn.thereS)) _ (by omega)) | exact Sees.own (WRowsIn.mem (by repeat (first | exact WRowsIn.here | exact WRowsIn.last | apply WRowsIn.there | apply WRowsIn.thereS)) _ (by omega))) rfl rfl rfl) (by nofun) (fun w1 hw => ?_)
    first
      | exact ⟨congrArg vv (val_1 (vs := vs) (W := W) (H := H) (D := D) (c := (celI (crd p1 f1 st) (W : Int))) (d := (celI (crd p2 f2 st) (H : Int))) (e := (celI (crd p3 f3 st) (D : Int))) (by omega)).symm, hw.below⟩
      | exact ⟨congrArg vv (val_n (vs := vs) (W := W) (H := H) (D := D) (c := (celI (crd p1 f1 st) (W : Int))) (d := (celI (crd p2 f2 st) (H : Int))) (e := (celI (crd p3 f3 st) (D : Int))) (by omega)).symm, hw.below⟩

end Go.Proofs.Ytfeciemlhiclbaa

