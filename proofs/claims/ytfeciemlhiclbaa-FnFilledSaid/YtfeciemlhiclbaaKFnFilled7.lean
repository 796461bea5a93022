/- Own texts of this claim, merged: WRv8, Fu, RndB, Pm, WRw8, Fv, Nm, WRx8. -/
import Derived.KernelRfl
import Derived.Deep.Slices
import Derived.Test.YtfeciemlhiclbaaKFnFilled6
namespace Go.Proofs.Ytfeciemlhiclbaa
open Go.RowKit
set_option linter.unusedVariables false
set_option linter.unusedSimpArgs false
set_option maxRecDepth 20000

theorem known17_Rv8 : Known Try.prog 17 := Known.mk' Try.func17 (by kernel_rfl)
theorem known38_Rv8 : Known Try.prog 38 := Known.mk' Try.func38 (by kernel_rfl)
theorem known28_Rv8 : Known Try.prog 28 := Known.mk' Try.func28 (by kernel_rfl)
theorem zero27_Rv8 : (Try.prog.info? 27).bind (·.zero) = some (Value.agg #[Value.slice none 0 0, Value.bool false, Value.float .f32 0]) := by kernel_rfl
theorem known15_Rv8 : Known Try.prog 15 := Known.mk' Try.func15 (by kernel_rfl)
theorem known16_Rv8 : Known Try.prog 16 := Known.mk' Try.func16 (by kernel_rfl)
theorem lay27_Rv8 : Lay Try.prog 27 [Value.slice none 0 0, Value.bool false, Value.float .f32 0] [(0, 1), (1, 1), (2, 1)] := Lay.mk' (by kernel_rfl) (by kernel_rfl)
theorem sz27_Rv8 : (Try.prog.info? 27).map (·.size) = some 3 := by kernel_rfl
theorem mixed_Rv8 : Try.prog.follows .mixedOrders = true := by kernel_rfl
theorem sz24_Rv8 : (Try.prog.info? 24).map (·.size) = some 1 := by kernel_rfl
theorem fb24_Rv8 : flatB Try.prog 24 = true := by kernel_rfl
theorem known18_Rv8 : Known Try.prog 18 := Known.mk' Try.func18 (by kernel_rfl)
theorem lay32_Rv8 : Lay Try.prog 32 [Value.float .f32 0, Value.float .f32 0, Value.float .f32 0] [(0, 1), (1, 1), (2, 1)] := Lay.mk' (by kernel_rfl) (by kernel_rfl)
theorem elt32_Rv8 : Elt Try.prog 32 [Value.float .f32 0, Value.float .f32 0, Value.float .f32 0] 12 := Elt.mk' (by kernel_rfl) (by decide)
theorem known19_Rv8 : Known Try.prog 19 := Known.mk' Try.func19 (by kernel_rfl)
attribute [local irreducible] fop fcmp fconv fneg fabs List.getD qw hqw

theorem c_imSine {w : World} {x : Nat} {i : Int} (hok : imOk x i = true) : Pure Try.prog 18 [.float .f32 x] w (.float .f32 (imW x i)) := by
  refine Pure.enter Try.func18 rfl Try.ntmps18 (Nat.le_of_ble_eq_true rfl) ?_
  obtain ⟨k1, k2, k3, k4, k5⟩ := im_is hok
  refine V.seq ?_
  refine V.region ?_
  refine VL.r (.inl rfl) rfl (by decide) (yr_assign (u := .float .f32 0) rfl rfl) ?_
  refine VL.nil ?_
  refine VE.then_wp ?_
  refine V.seq ?_
  refine V.seq ?_
  refine V.region ?_
  refine VL.r (.inl rfl) rfl (by decide) (yr_move rfl rfl) ?_
  refine VL.q (.inl rfl) rfl (by decide) (yq_callf rfl known17_Rv8 (.cons rfl .nil) (fun w hw => c_IsFinite _)) ?_
  refine VL.r (.inl rfl) rfl (by decide) (yr_not rfl rfl) ?_
  refine VL.nil ?_
  refine VE.then_wp ?_
  refine V.cond rfl (fun h1 => ?_) (fun h1 => ?_)
  · skip
    replace h1 := bnot_t h1
    rw [k1] at h1; cases h1
  · skip
    replace h1 := bnot_f h1
    refine V.skip ?_
    refine VE.then_wp ?_
    refine V.seq ?_
    refine V.region ?_
    refine VL.r (.inl rfl) rfl (by decide) (yr_move rfl rfl) ?_
    refine VL.r (.inl rfl) rfl (by decide) (yr_fconv rfl Try.underlying25 Try.underlying49 (by decide) rfl (fover_up _)) ?_
    refine VL.r (.inl rfl) rfl (by decide) (yr_assign rfl rfl) ?_
    refine VL.nil ?_
    refine VE.then_wp ?_
    refine V.seq ?_
    refine V.seq ?_
    refine V.region ?_
    refine VL.r (.inl rfl) rfl (by decide) (yr_move rfl rfl) ?_
    refine VL.q (.inl rfl) rfl (by decide) (yq_callf rfl known38_Rv8 (.cons rfl .nil) (fun w hw => c_abs _)) ?_
    refine VL.r (.inl rfl) rfl (by decide) (yr_fcmp (b := 4841369599423283200) rfl (.inr (.inr (.inr (.inr (.inr rfl))))) rfl rfl) ?_
    refine VL.nil ?_
    refine VE.then_wp ?_
    refine V.cond rfl (fun h2 => ?_) (fun h2 => ?_)
    · skip
      rw [k2] at h2; cases h2
    · skip
      refine V.skip ?_
      refine VE.then_wp ?_
      refine V.seq ?_
      refine V.region ?_
      refine VL.r (.inl rfl) rfl (by decide) (yr_move rfl rfl) ?_
      refine VL.r (.inl rfl) rfl (by decide) (yr_move rfl rfl) ?_
      refine VL.r (.inl rfl) rfl (by decide) (yr_toInt (i := i) rfl Try.underlying49 Try.underlying2 rfl k3) ?_
      refine VL.r (.inl rfl) rfl (by decide) (yr_ofInt rfl Try.underlying2 Try.underlying49 rfl) ?_
      refine VL.r (.inl rfl) rfl (by decide) (yr_float rfl (.inr (.inl rfl)) rfl rfl) ?_
      refine VL.r (.inl rfl) rfl (by decide) (yr_assign rfl rfl) ?_
      refine VL.nil ?_
      refine VE.then_wp ?_
      refine V.seq ?_
      refine V.seq ?_
      refine V.region ?_
      refine VL.r (.inl rfl) rfl (by decide) (yr_move rfl rfl) ?_
      refine VL.r (.inl rfl) rfl (by decide) (yr_fcmp (b := 0) rfl (.inr (.inr (.inl rfl))) rfl rfl) ?_
      refine VL.nil ?_
      refine VE.then_wp ?_
      refine V.cond rfl (fun h3 => ?_) (fun h3 => ?_)
      · skip
        rw [k4] at h3; cases h3
      · skip
        refine V.skip ?_
        refine VE.then_wp ?_
        refine V.seq ?_
        refine V.region ?_
        refine VL.r (.inl rfl) rfl (by decide) (yr_move rfl rfl) ?_
        refine VL.r (.inl rfl) rfl (by decide) (yr_fcmp (b := 4602678819172646912) rfl (.inr (.inr (.inr (.inr (.inr rfl))))) rfl rfl) ?_
        refine VL.r (.inl rfl) rfl (by decide) (yr_assign rfl rfl) ?_
        refine VL.nil ?_
        refine VE.then_wp ?_
        refine V.seq ?_
        refine V.seq ?_
        refine V.region ?_
        refine VL.r (.inl rfl) rfl (by decide) (yr_move rfl rfl) ?_
        refine VL.nil ?_
        refine VE.then_wp ?_
        refine V.cond rfl (fun h4 => ?_) (fun h4 => ?_)
        · skip
          have hA31 := h4
          refine V.region ?_
          refine VL.r (.inl rfl) rfl (by decide) (yr_move rfl rfl) ?_
          refine VL.r (.inl rfl) rfl (by decide) (yr_float (b := 4602678819172646912) rfl (.inr (.inl rfl)) rfl rfl) ?_
          refine VL.r (.inl rfl) rfl (by decide) (yr_assign rfl rfl) ?_
          refine VL.nil ?_
          refine VE.then_wp ?_
          refine V.seq ?_
          refine V.seq ?_
          refine V.region ?_
          refine VL.r (.inl rfl) rfl (by decide) (yr_move rfl rfl) ?_
          refine VL.r (.inl rfl) rfl (by decide) (yr_fcmp (b := 4598175219545276416) rfl (.inr (.inr (.inr (.inr (.inl rfl))))) rfl rfl) ?_
          refine VL.nil ?_
          refine VE.then_wp ?_
          refine V.cond rfl (fun h5 => ?_) (fun h5 => ?_)
          · skip
            have hA35 := h5
            refine V.region ?_
            refine VL.r (.inl rfl) rfl (by decide) (yr_move rfl rfl) ?_
            refine VL.r (.inl rfl) rfl (by decide) (yr_float (a := 4602678819172646912) rfl (.inr (.inl rfl)) rfl rfl) ?_
            refine VL.r (.inl rfl) rfl (by decide) (yr_assign rfl rfl) ?_
            refine VL.nil ?_
            refine VE.then_wp ?_
            refine V.seq ?_
            refine V.region ?_
            refine VL.r (.inl rfl) rfl (by decide) (yr_move rfl rfl) ?_
            refine VL.r (.inl rfl) rfl (by decide) (yr_float (b := 4618760256179416344) rfl (.inr (.inr (.inl rfl))) rfl rfl) ?_
            refine VL.r (.inl rfl) rfl (by decide) (yr_assign rfl rfl) ?_
            refine VL.nil ?_
            refine VE.then_wp ?_
            refine V.seq ?_
            refine V.region ?_
            refine VL.r (.inl rfl) rfl (by decide) (yr_move rfl rfl) ?_
            refine VL.r (.inl rfl) rfl (by decide) (yr_move rfl rfl) ?_
            refine VL.r (.inl rfl) rfl (by decide) (yr_float rfl (.inr (.inr (.inl rfl))) rfl rfl) ?_
            refine VL.r (.inl rfl) rfl (by decide) (yr_assign rfl rfl) ?_
            refine VL.nil ?_
            refine VE.then_wp ?_
            refine V.seq ?_
            refine V.region ?_
            refine VL.r (.inl rfl) rfl (by decide) (yr_assign (u := .float .f64 4607182418800017408) rfl rfl) ?_
            refine VL.nil ?_
            refine VE.then_wp ?_
            refine V.seq ?_
            refine V.seq ?_
            refine V.region ?_
            refine VL.r (.inl rfl) rfl (by decide) (yr_assign (u := .float .f64 4620693217682128896) rfl rfl) ?_
            refine VL.nil ?_
            refine VE.then_wp ?_
            refine V.block ?_
            refine V.loopc (G := Nat) [(5, _), (6, _), (7, _)] (fun (k : Nat) => k ≤ 8) (fun (k : Nat) => []) (fun (k : Nat) => [(8, .float .f64 (imP (fop .mul .f64 (fop .mul .f64 (fop .sub .f64 4602678819172646912 (fop .sub .f64 (fop .sub .f64 (fconv .f32 .f64 x) (FloatKind.f64.nearest i)) 4602678819172646912)) 4618760256179416344) (fop .mul .f64 (fop .sub .f64 4602678819172646912 (fop .sub .f64 (fop .sub .f64 (fconv .f32 .f64 x) (FloatKind.f64.nearest i)) 4602678819172646912)) 4618760256179416344)) k)), (9, .float .f64 (imK k))]) (fun (k : Nat) => 8 - k) 0 (.cons rfl (.cons rfl (.cons rfl .nil))) (.cons rfl (.cons rfl .nil)) ?_ ?_ ?_
            · exact (fun w hw => hw.sub (List.nil_sublist _))
            · exact (Nat.zero_le _)
            rintro k hk
            show V _ _ _ [] ([(8, .float .f64 (imP (fop .mul .f64 (fop .mul .f64 (fop .sub .f64 4602678819172646912 (fop .sub .f64 (fop .sub .f64 (fconv .f32 .f64 x) (FloatKind.f64.nearest i)) 4602678819172646912)) 4618760256179416344) (fop .mul .f64 (fop .sub .f64 4602678819172646912 (fop .sub .f64 (fop .sub .f64 (fconv .f32 .f64 x) (FloatKind.f64.nearest i)) 4602678819172646912)) 4618760256179416344)) k)), (9, .float .f64 (imK k))] ++ [(5, _), (6, _), (7, _)]) _ _
            refine V.seq ?_
            refine V.seq ?_
            refine V.region ?_
            refine VL.r (.inl rfl) rfl (by decide) (yr_move rfl rfl) ?_
            refine VL.r (.inl rfl) rfl (by decide) (yr_fcmp (b := 4607182418800017408) rfl (.inr (.inr (.inr (.inr (.inr rfl))))) rfl rfl) ?_
            refine VL.nil ?_
            refine VE.then_wp ?_
            refine V.cond rfl (fun h6 => ?_) (fun h6 => ?_)
            · skip
              have hk9 := imK_lt hk h6
              refine V.skip ?_
              refine VE.then_wp ?_
              refine V.seq ?_
              refine V.block ?_
              refine V.region ?_
              refine VL.r (.inl rfl) rfl (by decide) (yr_move rfl rfl) ?_
              refine VL.r (.inl rfl) rfl (by decide) (yr_move rfl rfl) ?_
              refine VL.r (.inl rfl) rfl (by decide) (yr_float rfl (.inr (.inr (.inl rfl))) rfl rfl) ?_
              refine VL.r (.inl rfl) rfl (by decide) (yr_move rfl rfl) ?_
              refine VL.r (.inl rfl) rfl (by decide) (yr_float (a := 4611686018427387904) rfl (.inr (.inr (.inl rfl))) rfl rfl) ?_
              refine VL.r (.inl rfl) rfl (by decide) (yr_move rfl rfl) ?_
              refine VL.r (.inl rfl) rfl (by decide) (yr_float (a := 4611686018427387904) rfl (.inr (.inr (.inl rfl))) rfl rfl) ?_
              refine VL.r (.inl rfl) rfl (by decide) (yr_float (b := 4607182418800017408) rfl (.inl rfl) rfl rfl) ?_
              refine VL.r (.inl rfl) rfl (by decide) (yr_float rfl (.inr (.inr (.inl rfl))) rfl rfl) ?_
              refine VL.r (.inl rfl) rfl (by decide) (yr_float rfl (.inr (.inr (.inr rfl))) rfl rfl) ?_
              refine VL.r (.inl rfl) rfl (by decide) (yr_float (a := 4607182418800017408) rfl (.inr (.inl rfl)) rfl rfl) ?_
              refine VL.r (.inl rfl) rfl (by decide) (yr_assign rfl rfl) ?_
              refine VL.nil ?_
              refine VE.block_normal ?_
              refine VE.then_wp ?_
              refine V.region ?_
              refine VL.r (.inl rfl) rfl (by decide) (yr_move rfl rfl) ?_
              refine VL.r (.inl rfl) rfl (by decide) (yr_float (b := 4607182418800017408) rfl (.inr (.inl rfl)) rfl rfl) ?_
              refine VL.r (.inl rfl) rfl (by decide) (yr_assign rfl rfl) ?_
              refine VL.nil ?_
              refine VE.round (k + 1) ?_ ?_ ?_ ?_ ?_
              · exact (.cons (congrArg (fun i => some (Value.float .f64 i)) (by rfl)) (.cons (congrArg (fun i => some (Value.float .f64 i)) (by rfl)) .nil))
              · exact (.cons rfl (.cons rfl (.cons rfl .nil)))
              · exact (fun w hw => hw.sub (List.nil_sublist _))
              · (try dsimp only); omega
              · (try dsimp only); omega
            · skip
              obtain rfl := imK_ge hk h6
              have hov9 := k5
              first
                | (rw [im_r3 hA31 (im_r2 (im_r11 hA31) hA35)] at hov9; simp only [if_true, Bool.false_eq_true, if_false] at hov9)
                | (rw [im_r3 hA31 (im_r2 (im_r10 hA31) hA35)] at hov9; simp only [if_true, Bool.false_eq_true, if_false] at hov9)
              refine V.exit ?_
              refine VE.then_exit ?_
              refine VE.then_exit ?_
              refine VE.block_here ?_
              refine VE.then_wp ?_
              refine V.seq ?_
              refine V.region ?_
              refine VL.r (.inl rfl) rfl (by decide) (yr_move rfl rfl) ?_
              refine VL.r (.inl rfl) rfl (by decide) (yr_move rfl rfl) ?_
              refine VL.r (.inl rfl) rfl (by decide) (yr_float rfl (.inr (.inr (.inl rfl))) rfl rfl) ?_
              refine VL.r (.inl rfl) rfl (by decide) (yr_assign rfl rfl) ?_
              refine VL.nil ?_
              refine VE.then_wp ?_
              refine V.seq ?_
              refine V.seq ?_
              refine V.region ?_
              refine VL.r (.inl rfl) rfl (by decide) (yr_move rfl rfl) ?_
              refine VL.nil ?_
              refine VE.then_wp ?_
              refine V.cond rfl (fun h7 => ?_) (fun h7 => ?_)
              · skip
                refine V.region ?_
                refine VL.r (.inl rfl) rfl (by decide) (yr_move rfl rfl) ?_
                refine VL.r (.inl rfl) rfl (by decide) (yr_fneg rfl rfl) ?_
                refine VL.r (.inl rfl) rfl (by decide) (yr_assign rfl rfl) ?_
                refine VL.nil ?_
                refine VE.then_wp ?_
                refine V.seq ?_
                refine V.region ?_
                refine VL.r (.inl rfl) rfl (by decide) (yr_move rfl rfl) ?_
                refine VL.r (.inl rfl) rfl (by decide) (yr_fconv rfl Try.underlying49 Try.underlying25 (by decide) rfl hov9) ?_
                refine VL.r (.inl rfl) rfl (by decide) (yr_assign rfl rfl) ?_
                refine VL.nil ?_
                refine VE.then_wp ?_
                refine V.ret ?_
                refine ret1 rfl rfl (fun w1 hw => ?_)
                refine ⟨congrArg (Value.float .f32) ?_, hw.below⟩
                unfold imW
                first
                  | (rw [im_r3 hA31 (im_r2 (im_r11 hA31) hA35)]; simp only [if_true, Bool.false_eq_true, if_false]; done)
                  | (rw [im_r3 hA31 (im_r2 (im_r10 hA31) hA35)]; simp only [if_true, Bool.false_eq_true, if_false]; done)
              · skip
                rw [hA31] at h7; cases h7
          · skip
            have hA35 := h5
            refine V.skip ?_
            refine VE.then_wp ?_
            refine V.seq ?_
            refine V.region ?_
            refine VL.r (.inl rfl) rfl (by decide) (yr_move rfl rfl) ?_
            refine VL.r (.inl rfl) rfl (by decide) (yr_float (b := 4618760256179416344) rfl (.inr (.inr (.inl rfl))) rfl rfl) ?_
            refine VL.r (.inl rfl) rfl (by decide) (yr_assign rfl rfl) ?_
            refine VL.nil ?_
            refine VE.then_wp ?_
            refine V.seq ?_
            refine V.region ?_
            refine VL.r (.inl rfl) rfl (by decide) (yr_move rfl rfl) ?_
            refine VL.r (.inl rfl) rfl (by decide) (yr_move rfl rfl) ?_
            refine VL.r (.inl rfl) rfl (by decide) (yr_float rfl (.inr (.inr (.inl rfl))) rfl rfl) ?_
            refine VL.r (.inl rfl) rfl (by decide) (yr_assign rfl rfl) ?_
            refine VL.nil ?_
            refine VE.then_wp ?_
            refine V.seq ?_
            refine V.region ?_
            refine VL.r (.inl rfl) rfl (by decide) (yr_assign (u := .float .f64 4607182418800017408) rfl rfl) ?_
            refine VL.nil ?_
            refine VE.then_wp ?_
            refine V.seq ?_
            refine V.seq ?_
            refine V.region ?_
            refine VL.r (.inl rfl) rfl (by decide) (yr_assign (u := .float .f64 4620693217682128896) rfl rfl) ?_
            refine VL.nil ?_
            refine VE.then_wp ?_
            refine V.block ?_
            refine V.loopc (G := Nat) [(5, _), (6, _), (7, _)] (fun (k : Nat) => k ≤ 8) (fun (k : Nat) => []) (fun (k : Nat) => [(8, .float .f64 (imP (fop .mul .f64 (fop .mul .f64 (fop .sub .f64 (fop .sub .f64 (fconv .f32 .f64 x) (FloatKind.f64.nearest i)) 4602678819172646912) 4618760256179416344) (fop .mul .f64 (fop .sub .f64 (fop .sub .f64 (fconv .f32 .f64 x) (FloatKind.f64.nearest i)) 4602678819172646912) 4618760256179416344)) k)), (9, .float .f64 (imK k))]) (fun (k : Nat) => 8 - k) 0 (.cons rfl (.cons rfl (.cons rfl .nil))) (.cons rfl (.cons rfl .nil)) ?_ ?_ ?_
            · exact (fun w hw => hw.sub (List.nil_sublist _))
            · exact (Nat.zero_le _)
            rintro k hk
            show V _ _ _ [] ([(8, .float .f64 (imP (fop .mul .f64 (fop .mul .f64 (fop .sub .f64 (fop .sub .f64 (fconv .f32 .f64 x) (FloatKind.f64.nearest i)) 4602678819172646912) 4618760256179416344) (fop .mul .f64 (fop .sub .f64 (fop .sub .f64 (fconv .f32 .f64 x) (FloatKind.f64.nearest i)) 4602678819172646912) 4618760256179416344)) k)), (9, .float .f64 (imK k))] ++ [(5, _), (6, _), (7, _)]) _ _
            refine V.seq ?_
            refine V.seq ?_
            refine V.region ?_
            refine VL.r (.inl rfl) rfl (by decide) (yr_move rfl rfl) ?_
            refine VL.r (.inl rfl) rfl (by decide) (yr_fcmp (b := 4607182418800017408) rfl (.inr (.inr (.inr (.inr (.inr rfl))))) rfl rfl) ?_
            refine VL.nil ?_
            refine VE.then_wp ?_
            refine V.cond rfl (fun h8 => ?_) (fun h8 => ?_)
            · skip
              have hk9 := imK_lt hk h8
              refine V.skip ?_
              refine VE.then_wp ?_
              refine V.seq ?_
              refine V.block ?_
              refine V.region ?_
              refine VL.r (.inl rfl) rfl (by decide) (yr_move rfl rfl) ?_
              refine VL.r (.inl rfl) rfl (by decide) (yr_move rfl rfl) ?_
              refine VL.r (.inl rfl) rfl (by decide) (yr_float rfl (.inr (.inr (.inl rfl))) rfl rfl) ?_
              refine VL.r (.inl rfl) rfl (by decide) (yr_move rfl rfl) ?_
              refine VL.r (.inl rfl) rfl (by decide) (yr_float (a := 4611686018427387904) rfl (.inr (.inr (.inl rfl))) rfl rfl) ?_
              refine VL.r (.inl rfl) rfl (by decide) (yr_move rfl rfl) ?_
              refine VL.r (.inl rfl) rfl (by decide) (yr_float (a := 4611686018427387904) rfl (.inr (.inr (.inl rfl))) rfl rfl) ?_
              refine VL.r (.inl rfl) rfl (by decide) (yr_float (b := 4607182418800017408) rfl (.inl rfl) rfl rfl) ?_
              refine VL.r (.inl rfl) rfl (by decide) (yr_float rfl (.inr (.inr (.inl rfl))) rfl rfl) ?_
              refine VL.r (.inl rfl) rfl (by decide) (yr_float rfl (.inr (.inr (.inr rfl))) rfl rfl) ?_
              refine VL.r (.inl rfl) rfl (by decide) (yr_float (a := 4607182418800017408) rfl (.inr (.inl rfl)) rfl rfl) ?_
              refine VL.r (.inl rfl) rfl (by decide) (yr_assign rfl rfl) ?_
              refine VL.nil ?_
              refine VE.block_normal ?_
              refine VE.then_wp ?_
              refine V.region ?_
              refine VL.r (.inl rfl) rfl (by decide) (yr_move rfl rfl) ?_
              refine VL.r (.inl rfl) rfl (by decide) (yr_float (b := 4607182418800017408) rfl (.inr (.inl rfl)) rfl rfl) ?_
              refine VL.r (.inl rfl) rfl (by decide) (yr_assign rfl rfl) ?_
              refine VL.nil ?_
              refine VE.round (k + 1) ?_ ?_ ?_ ?_ ?_
              · exact (.cons (congrArg (fun i => some (Value.float .f64 i)) (by rfl)) (.cons (congrArg (fun i => some (Value.float .f64 i)) (by rfl)) .nil))
              · exact (.cons rfl (.cons rfl (.cons rfl .nil)))
              · exact (fun w hw => hw.sub (List.nil_sublist _))
              · (try dsimp only); omega
              · (try dsimp only); omega
            · skip
              obtain rfl := imK_ge hk h8
              have hov9 := k5
              first
                | (rw [im_r3 hA31 (im_r2 (im_r11 hA31) hA35)] at hov9; simp only [if_true, Bool.false_eq_true, if_false] at hov9)
                | (rw [im_r3 hA31 (im_r2 (im_r10 hA31) hA35)] at hov9; simp only [if_true, Bool.false_eq_true, if_false] at hov9)
              refine V.exit ?_
              refine VE.then_exit ?_
              refine VE.then_exit ?_
              refine VE.block_here ?_
              refine VE.then_wp ?_
              refine V.seq ?_
              refine V.region ?_
              refine VL.r (.inl rfl) rfl (by decide) (yr_move rfl rfl) ?_
              refine VL.r (.inl rfl) rfl (by decide) (yr_move rfl rfl) ?_
              refine VL.r (.inl rfl) rfl (by decide) (yr_float rfl (.inr (.inr (.inl rfl))) rfl rfl) ?_
              refine VL.r (.inl rfl) rfl (by decide) (yr_assign rfl rfl) ?_
              refine VL.nil ?_
              refine VE.then_wp ?_
              refine V.seq ?_
              refine V.seq ?_
              refine V.region ?_
              refine VL.r (.inl rfl) rfl (by decide) (yr_move rfl rfl) ?_
              refine VL.nil ?_
              refine VE.then_wp ?_
              refine V.cond rfl (fun h9 => ?_) (fun h9 => ?_)
              · skip
                refine V.region ?_
                refine VL.r (.inl rfl) rfl (by decide) (yr_move rfl rfl) ?_
                refine VL.r (.inl rfl) rfl (by decide) (yr_fneg rfl rfl) ?_
                refine VL.r (.inl rfl) rfl (by decide) (yr_assign rfl rfl) ?_
                refine VL.nil ?_
                refine VE.then_wp ?_
                refine V.seq ?_
                refine V.region ?_
                refine VL.r (.inl rfl) rfl (by decide) (yr_move rfl rfl) ?_
                refine VL.r (.inl rfl) rfl (by decide) (yr_fconv rfl Try.underlying49 Try.underlying25 (by decide) rfl hov9) ?_
                refine VL.r (.inl rfl) rfl (by decide) (yr_assign rfl rfl) ?_
                refine VL.nil ?_
                refine VE.then_wp ?_
                refine V.ret ?_
                refine ret1 rfl rfl (fun w1 hw => ?_)
                refine ⟨congrArg (Value.float .f32) ?_, hw.below⟩
                unfold imW
                first
                  | (rw [im_r3 hA31 (im_r2 (im_r11 hA31) hA35)]; simp only [if_true, Bool.false_eq_true, if_false]; done)
                  | (rw [im_r3 hA31 (im_r2 (im_r10 hA31) hA35)]; simp only [if_true, Bool.false_eq_true, if_false]; done)
              · skip
                rw [hA31] at h9; cases h9
        · skip
          have hA31 := h4
          refine V.skip ?_
          refine VE.then_wp ?_
          refine V.seq ?_
          refine V.seq ?_
          refine V.region ?_
          refine VL.r (.inl rfl) rfl (by decide) (yr_move rfl rfl) ?_
          refine VL.r (.inl rfl) rfl (by decide) (yr_fcmp (b := 4598175219545276416) rfl (.inr (.inr (.inr (.inr (.inl rfl))))) rfl rfl) ?_
          refine VL.nil ?_
          refine VE.then_wp ?_
          refine V.cond rfl (fun h10 => ?_) (fun h10 => ?_)
          · skip
            have hA35 := h10
            refine V.region ?_
            refine VL.r (.inl rfl) rfl (by decide) (yr_move rfl rfl) ?_
            refine VL.r (.inl rfl) rfl (by decide) (yr_float (a := 4602678819172646912) rfl (.inr (.inl rfl)) rfl rfl) ?_
            refine VL.r (.inl rfl) rfl (by decide) (yr_assign rfl rfl) ?_
            refine VL.nil ?_
            refine VE.then_wp ?_
            refine V.seq ?_
            refine V.region ?_
            refine VL.r (.inl rfl) rfl (by decide) (yr_move rfl rfl) ?_
            refine VL.r (.inl rfl) rfl (by decide) (yr_float (b := 4618760256179416344) rfl (.inr (.inr (.inl rfl))) rfl rfl) ?_
            refine VL.r (.inl rfl) rfl (by decide) (yr_assign rfl rfl) ?_
            refine VL.nil ?_
            refine VE.then_wp ?_
            refine V.seq ?_
            refine V.region ?_
            refine VL.r (.inl rfl) rfl (by decide) (yr_move rfl rfl) ?_
            refine VL.r (.inl rfl) rfl (by decide) (yr_move rfl rfl) ?_
            refine VL.r (.inl rfl) rfl (by decide) (yr_float rfl (.inr (.inr (.inl rfl))) rfl rfl) ?_
            refine VL.r (.inl rfl) rfl (by decide) (yr_assign rfl rfl) ?_
            refine VL.nil ?_
            refine VE.then_wp ?_
            refine V.seq ?_
            refine V.region ?_
            refine VL.r (.inl rfl) rfl (by decide) (yr_assign (u := .float .f64 4607182418800017408) rfl rfl) ?_
            refine VL.nil ?_
            refine VE.then_wp ?_
            refine V.seq ?_
            refine V.seq ?_
            refine V.region ?_
            refine VL.r (.inl rfl) rfl (by decide) (yr_assign (u := .float .f64 4620693217682128896) rfl rfl) ?_
            refine VL.nil ?_
            refine VE.then_wp ?_
            refine V.block ?_
            refine V.loopc (G := Nat) [(5, _), (6, _), (7, _)] (fun (k : Nat) => k ≤ 8) (fun (k : Nat) => []) (fun (k : Nat) => [(8, .float .f64 (imP (fop .mul .f64 (fop .mul .f64 (fop .sub .f64 4602678819172646912 (fop .sub .f64 (fconv .f32 .f64 x) (FloatKind.f64.nearest i))) 4618760256179416344) (fop .mul .f64 (fop .sub .f64 4602678819172646912 (fop .sub .f64 (fconv .f32 .f64 x) (FloatKind.f64.nearest i))) 4618760256179416344)) k)), (9, .float .f64 (imK k))]) (fun (k : Nat) => 8 - k) 0 (.cons rfl (.cons rfl (.cons rfl .nil))) (.cons rfl (.cons rfl .nil)) ?_ ?_ ?_
            · exact (fun w hw => hw.sub (List.nil_sublist _))
            · exact (Nat.zero_le _)
            rintro k hk
            show V _ _ _ [] ([(8, .float .f64 (imP (fop .mul .f64 (fop .mul .f64 (fop .sub .f64 4602678819172646912 (fop .sub .f64 (fconv .f32 .f64 x) (FloatKind.f64.nearest i))) 4618760256179416344) (fop .mul .f64 (fop .sub .f64 4602678819172646912 (fop .sub .f64 (fconv .f32 .f64 x) (FloatKind.f64.nearest i))) 4618760256179416344)) k)), (9, .float .f64 (imK k))] ++ [(5, _), (6, _), (7, _)]) _ _
            refine V.seq ?_
            refine V.seq ?_
            refine V.region ?_
            refine VL.r (.inl rfl) rfl (by decide) (yr_move rfl rfl) ?_
            refine VL.r (.inl rfl) rfl (by decide) (yr_fcmp (b := 4607182418800017408) rfl (.inr (.inr (.inr (.inr (.inr rfl))))) rfl rfl) ?_
            refine VL.nil ?_
            refine VE.then_wp ?_
            refine V.cond rfl (fun h11 => ?_) (fun h11 => ?_)
            · skip
              have hk9 := imK_lt hk h11
              refine V.skip ?_
              refine VE.then_wp ?_
              refine V.seq ?_
              refine V.block ?_
              refine V.region ?_
              refine VL.r (.inl rfl) rfl (by decide) (yr_move rfl rfl) ?_
              refine VL.r (.inl rfl) rfl (by decide) (yr_move rfl rfl) ?_
              refine VL.r (.inl rfl) rfl (by decide) (yr_float rfl (.inr (.inr (.inl rfl))) rfl rfl) ?_
              refine VL.r (.inl rfl) rfl (by decide) (yr_move rfl rfl) ?_
              refine VL.r (.inl rfl) rfl (by decide) (yr_float (a := 4611686018427387904) rfl (.inr (.inr (.inl rfl))) rfl rfl) ?_
              refine VL.r (.inl rfl) rfl (by decide) (yr_move rfl rfl) ?_
              refine VL.r (.inl rfl) rfl (by decide) (yr_float (a := 4611686018427387904) rfl (.inr (.inr (.inl rfl))) rfl rfl) ?_
              refine VL.r (.inl rfl) rfl (by decide) (yr_float (b := 4607182418800017408) rfl (.inl rfl) rfl rfl) ?_
              refine VL.r (.inl rfl) rfl (by decide) (yr_float rfl (.inr (.inr (.inl rfl))) rfl rfl) ?_
              refine VL.r (.inl rfl) rfl (by decide) (yr_float rfl (.inr (.inr (.inr rfl))) rfl rfl) ?_
              refine VL.r (.inl rfl) rfl (by decide) (yr_float (a := 4607182418800017408) rfl (.inr (.inl rfl)) rfl rfl) ?_
              refine VL.r (.inl rfl) rfl (by decide) (yr_assign rfl rfl) ?_
              refine VL.nil ?_
              refine VE.block_normal ?_
              refine VE.then_wp ?_
              refine V.region ?_
              refine VL.r (.inl rfl) rfl (by decide) (yr_move rfl rfl) ?_
              refine VL.r (.inl rfl) rfl (by decide) (yr_float (b := 4607182418800017408) rfl (.inr (.inl rfl)) rfl rfl) ?_
              refine VL.r (.inl rfl) rfl (by decide) (yr_assign rfl rfl) ?_
              refine VL.nil ?_
              refine VE.round (k + 1) ?_ ?_ ?_ ?_ ?_
              · exact (.cons (congrArg (fun i => some (Value.float .f64 i)) (by rfl)) (.cons (congrArg (fun i => some (Value.float .f64 i)) (by rfl)) .nil))
              · exact (.cons rfl (.cons rfl (.cons rfl .nil)))
              · exact (fun w hw => hw.sub (List.nil_sublist _))
              · (try dsimp only); omega
              · (try dsimp only); omega
            · skip
              obtain rfl := imK_ge hk h11
              have hov9 := k5
              first
                | (rw [im_r3 hA31 (im_r2 (im_r11 hA31) hA35)] at hov9; simp only [if_true, Bool.false_eq_true, if_false] at hov9)
                | (rw [im_r3 hA31 (im_r2 (im_r10 hA31) hA35)] at hov9; simp only [if_true, Bool.false_eq_true, if_false] at hov9)
              refine V.exit ?_
              refine VE.then_exit ?_
              refine VE.then_exit ?_
              refine VE.block_here ?_
              refine VE.then_wp ?_
              refine V.seq ?_
              refine V.region ?_
              refine VL.r (.inl rfl) rfl (by decide) (yr_move rfl rfl) ?_
              refine VL.r (.inl rfl) rfl (by decide) (yr_move rfl rfl) ?_
              refine VL.r (.inl rfl) rfl (by decide) (yr_float rfl (.inr (.inr (.inl rfl))) rfl rfl) ?_
              refine VL.r (.inl rfl) rfl (by decide) (yr_assign rfl rfl) ?_
              refine VL.nil ?_
              refine VE.then_wp ?_
              refine V.seq ?_
              refine V.seq ?_
              refine V.region ?_
              refine VL.r (.inl rfl) rfl (by decide) (yr_move rfl rfl) ?_
              refine VL.nil ?_
              refine VE.then_wp ?_
              refine V.cond rfl (fun h12 => ?_) (fun h12 => ?_)
              · skip
                rw [hA31] at h12; cases h12
              · skip
                refine V.skip ?_
                refine VE.then_wp ?_
                refine V.seq ?_
                refine V.region ?_
                refine VL.r (.inl rfl) rfl (by decide) (yr_move rfl rfl) ?_
                refine VL.r (.inl rfl) rfl (by decide) (yr_fconv rfl Try.underlying49 Try.underlying25 (by decide) rfl hov9) ?_
                refine VL.r (.inl rfl) rfl (by decide) (yr_assign rfl rfl) ?_
                refine VL.nil ?_
                refine VE.then_wp ?_
                refine V.ret ?_
                refine ret1 rfl rfl (fun w1 hw => ?_)
                refine ⟨congrArg (Value.float .f32) ?_, hw.below⟩
                unfold imW
                first
                  | (rw [im_r3 hA31 (im_r2 (im_r11 hA31) hA35)]; simp only [if_true, Bool.false_eq_true, if_false]; done)
                  | (rw [im_r3 hA31 (im_r2 (im_r10 hA31) hA35)]; simp only [if_true, Bool.false_eq_true, if_false]; done)
          · skip
            have hA35 := h10
            refine V.skip ?_
            refine VE.then_wp ?_
            refine V.seq ?_
            refine V.region ?_
            refine VL.r (.inl rfl) rfl (by decide) (yr_move rfl rfl) ?_
            refine VL.r (.inl rfl) rfl (by decide) (yr_float (b := 4618760256179416344) rfl (.inr (.inr (.inl rfl))) rfl rfl) ?_
            refine VL.r (.inl rfl) rfl (by decide) (yr_assign rfl rfl) ?_
            refine VL.nil ?_
            refine VE.then_wp ?_
            refine V.seq ?_
            refine V.region ?_
            refine VL.r (.inl rfl) rfl (by decide) (yr_move rfl rfl) ?_
            refine VL.r (.inl rfl) rfl (by decide) (yr_move rfl rfl) ?_
            refine VL.r (.inl rfl) rfl (by decide) (yr_float rfl (.inr (.inr (.inl rfl))) rfl rfl) ?_
            refine VL.r (.inl rfl) rfl (by decide) (yr_assign rfl rfl) ?_
            refine VL.nil ?_
            refine VE.then_wp ?_
            refine V.seq ?_
            refine V.region ?_
            refine VL.r (.inl rfl) rfl (by decide) (yr_assign (u := .float .f64 4607182418800017408) rfl rfl) ?_
            refine VL.nil ?_
            refine VE.then_wp ?_
            refine V.seq ?_
            refine V.seq ?_
            refine V.region ?_
            refine VL.r (.inl rfl) rfl (by decide) (yr_assign (u := .float .f64 4620693217682128896) rfl rfl) ?_
            refine VL.nil ?_
            refine VE.then_wp ?_
            refine V.block ?_
            refine V.loopc (G := Nat) [(5, _), (6, _), (7, _)] (fun (k : Nat) => k ≤ 8) (fun (k : Nat) => []) (fun (k : Nat) => [(8, .float .f64 (imP (fop .mul .f64 (fop .mul .f64 (fop .sub .f64 (fconv .f32 .f64 x) (FloatKind.f64.nearest i)) 4618760256179416344) (fop .mul .f64 (fop .sub .f64 (fconv .f32 .f64 x) (FloatKind.f64.nearest i)) 4618760256179416344)) k)), (9, .float .f64 (imK k))]) (fun (k : Nat) => 8 - k) 0 (.cons rfl (.cons rfl (.cons rfl .nil))) (.cons rfl (.cons rfl .nil)) ?_ ?_ ?_
            · exact (fun w hw => hw.sub (List.nil_sublist _))
            · exact (Nat.zero_le _)
            rintro k hk
            show V _ _ _ [] ([(8, .float .f64 (imP (fop .mul .f64 (fop .mul .f64 (fop .sub .f64 (fconv .f32 .f64 x) (FloatKind.f64.nearest i)) 4618760256179416344) (fop .mul .f64 (fop .sub .f64 (fconv .f32 .f64 x) (FloatKind.f64.nearest i)) 4618760256179416344)) k)), (9, .float .f64 (imK k))] ++ [(5, _), (6, _), (7, _)]) _ _
            refine V.seq ?_
            refine V.seq ?_
            refine V.region ?_
            refine VL.r (.inl rfl) rfl (by decide) (yr_move rfl rfl) ?_
            refine VL.r (.inl rfl) rfl (by decide) (yr_fcmp (b := 4607182418800017408) rfl (.inr (.inr (.inr (.inr (.inr rfl))))) rfl rfl) ?_
            refine VL.nil ?_
            refine VE.then_wp ?_
            refine V.cond rfl (fun h13 => ?_) (fun h13 => ?_)
            · skip
              have hk9 := imK_lt hk h13
              refine V.skip ?_
              refine VE.then_wp ?_
              refine V.seq ?_
              refine V.block ?_
              refine V.region ?_
              refine VL.r (.inl rfl) rfl (by decide) (yr_move rfl rfl) ?_
              refine VL.r (.inl rfl) rfl (by decide) (yr_move rfl rfl) ?_
              refine VL.r (.inl rfl) rfl (by decide) (yr_float rfl (.inr (.inr (.inl rfl))) rfl rfl) ?_
              refine VL.r (.inl rfl) rfl (by decide) (yr_move rfl rfl) ?_
              refine VL.r (.inl rfl) rfl (by decide) (yr_float (a := 4611686018427387904) rfl (.inr (.inr (.inl rfl))) rfl rfl) ?_
              refine VL.r (.inl rfl) rfl (by decide) (yr_move rfl rfl) ?_
              refine VL.r (.inl rfl) rfl (by decide) (yr_float (a := 4611686018427387904) rfl (.inr (.inr (.inl rfl))) rfl rfl) ?_
              refine VL.r (.inl rfl) rfl (by decide) (yr_float (b := 4607182418800017408) rfl (.inl rfl) rfl rfl) ?_
              refine VL.r (.inl rfl) rfl (by decide) (yr_float rfl (.inr (.inr (.inl rfl))) rfl rfl) ?_
              refine VL.r (.inl rfl) rfl (by decide) (yr_float rfl (.inr (.inr (.inr rfl))) rfl rfl) ?_
              refine VL.r (.inl rfl) rfl (by decide) (yr_float (a := 4607182418800017408) rfl (.inr (.inl rfl)) rfl rfl) ?_
              refine VL.r (.inl rfl) rfl (by decide) (yr_assign rfl rfl) ?_
              refine VL.nil ?_
              refine VE.block_normal ?_
              refine VE.then_wp ?_
              refine V.region ?_
              refine VL.r (.inl rfl) rfl (by decide) (yr_move rfl rfl) ?_
              refine VL.r (.inl rfl) rfl (by decide) (yr_float (b := 4607182418800017408) rfl (.inr (.inl rfl)) rfl rfl) ?_
              refine VL.r (.inl rfl) rfl (by decide) (yr_assign rfl rfl) ?_
              refine VL.nil ?_
              refine VE.round (k + 1) ?_ ?_ ?_ ?_ ?_
              · exact (.cons (congrArg (fun i => some (Value.float .f64 i)) (by rfl)) (.cons (congrArg (fun i => some (Value.float .f64 i)) (by rfl)) .nil))
              · exact (.cons rfl (.cons rfl (.cons rfl .nil)))
              · exact (fun w hw => hw.sub (List.nil_sublist _))
              · (try dsimp only); omega
              · (try dsimp only); omega
            · skip
              obtain rfl := imK_ge hk h13
              have hov9 := k5
              first
                | (rw [im_r3 hA31 (im_r2 (im_r11 hA31) hA35)] at hov9; simp only [if_true, Bool.false_eq_true, if_false] at hov9)
                | (rw [im_r3 hA31 (im_r2 (im_r10 hA31) hA35)] at hov9; simp only [if_true, Bool.false_eq_true, if_false] at hov9)
              refine V.exit ?_
              refine VE.then_exit ?_
              refine VE.then_exit ?_
              refine VE.block_here ?_
              refine VE.then_wp ?_
              refine V.seq ?_
              refine V.region ?_
              refine VL.r (.inl rfl) rfl (by decide) (yr_move rfl rfl) ?_
              refine VL.r (.inl rfl) rfl (by decide) (yr_move rfl rfl) ?_
              refine VL.r (.inl rfl) rfl (by decide) (yr_float rfl (.inr (.inr (.inl rfl))) rfl rfl) ?_
              refine VL.r (.inl rfl) rfl (by decide) (yr_assign rfl rfl) ?_
              refine VL.nil ?_
              refine VE.then_wp ?_
              refine V.seq ?_
              refine V.seq ?_
              refine V.region ?_
              refine VL.r (.inl rfl) rfl (by decide) (yr_move rfl rfl) ?_
              refine VL.nil ?_
              refine VE.then_wp ?_
              refine V.cond rfl (fun h14 => ?_) (fun h14 => ?_)
              · skip
                rw [hA31] at h14; cases h14
              · skip
                refine V.skip ?_
                refine VE.then_wp ?_
                refine V.seq ?_
                refine V.region ?_
                refine VL.r (.inl rfl) rfl (by decide) (yr_move rfl rfl) ?_
                refine VL.r (.inl rfl) rfl (by decide) (yr_fconv rfl Try.underlying49 Try.underlying25 (by decide) rfl hov9) ?_
                refine VL.r (.inl rfl) rfl (by decide) (yr_assign rfl rfl) ?_
                refine VL.nil ?_
                refine VE.then_wp ?_
                refine V.ret ?_
                refine ret1 rfl rfl (fun w1 hw => ?_)
                refine ⟨congrArg (Value.float .f32) ?_, hw.below⟩
                unfold imW
                first
                  | (rw [im_r3 hA31 (im_r2 (im_r11 hA31) hA35)]; simp only [if_true, Bool.false_eq_true, if_false]; done)
                  | (rw [im_r3 hA31 (im_r2 (im_r10 hA31) hA35)]; simp only [if_true, Bool.false_eq_true, if_false]; done)

theorem c_isCnt8 {w : World} : Pure Try.prog 15 [.int .i64 8] w (.bool true) := by
  refine Pure.enter Try.func15 rfl Try.ntmps15 (Nat.le_of_ble_eq_true rfl) ?_
  refine V.seq ?_
  refine V.region ?_
  refine VL.r (.inl rfl) rfl (by decide) (yr_assign (u := .bool false) rfl rfl) ?_
  refine VL.nil ?_
  refine VE.then_wp ?_
  refine V.seq ?_
  refine V.region ?_
  refine VL.r (.inl rfl) rfl (by decide) (yr_move rfl rfl) ?_
  refine VL.q (.inl rfl) rfl (by decide) (yq_callf rfl known28_Rv8 (.cons rfl (.cons rfl (.cons rfl .nil))) (fun w hw => c_within)) ?_
  refine VL.r (.inl rfl) rfl (by decide) (yr_assign rfl rfl) ?_
  refine VL.nil ?_
  refine VE.then_wp ?_
  refine V.ret ?_
  refine ret1 rfl rfl (fun w1 hw => ?_)
  first | exact ⟨rfl, hw.below⟩ | exact ⟨by decide, hw.below⟩

theorem c_ring8 {w : World} : New Try.prog 5 [.int .i64 8, .float .f32 1065353216, .float .f32 0, .float .f32 1065353216] w (fun p : Option Addr × Nat => .tuple #[.agg #[.slice p.1 8 p.2, .bool true, .float .f32 1065353216], .bool true]) (fun p => [⟨p.1, vl (i8L 8), p.2 * 3, 32⟩]) := by
  refine New.enter Try.func5 rfl Try.ntmps5 (Nat.le_of_ble_eq_true rfl) ?_
  refine V.seq ?_
  refine V.region ?_
  refine VL.new1 (.inl rfl) rfl (by decide) (yn_alloc rfl zero27_Rv8 rfl) ?_
  intro b8
  refine VL.r (.inl rfl) rfl (by decide) (yr_assign (u := .bool false) rfl rfl) ?_
  refine VL.nil ?_
  refine VE.then_wp ?_
  refine V.seq ?_
  refine V.seq ?_
  refine V.region ?_
  refine VL.r (.inl rfl) rfl (by decide) (yr_move rfl rfl) ?_
  refine VL.q (.inl rfl) rfl (by decide) (yq_callf rfl known15_Rv8 (.cons rfl .nil) (fun w hw => c_isCnt8)) ?_
  refine VL.r (.inl rfl) rfl (by decide) (yr_not rfl rfl) ?_
  refine VL.r (.inl rfl) rfl (by decide) (yr_move rfl rfl) ?_
  refine VX.split 16 _ rfl (fun h1 => ?_) (fun h1 => ?_)
  · skip
    replace h1 := bnot_t h1
    cases h1
  · skip
    replace h1 := bnot_f h1
    refine VL.r (.inr ⟨_, _, _, rfl, rfl, rfl⟩) rfl (by decide) (yr_move rfl rfl) ?_
    refine VL.q (.inr ⟨_, _, _, rfl, rfl, rfl⟩) rfl (by decide) (yq_callf rfl known16_Rv8 (.cons rfl .nil) (fun w hw => c_isLength _)) ?_
    refine VL.r (.inr ⟨_, _, _, rfl, rfl, rfl⟩) rfl (by decide) (yr_not rfl rfl) ?_
    refine VL.r (.inl rfl) rfl (by decide) (yr_pick_f rfl rfl rfl) ?_
    refine VL.r (.inl rfl) rfl (by decide) (yr_move rfl rfl) ?_
    refine VX.split 21 _ rfl (fun h2 => ?_) (fun h2 => ?_)
    · skip
      replace h2 := bnot_t h2
      rw [show above 1065353216 = true by decide +kernel] at h2; cases h2
    · skip
      replace h2 := bnot_f h2
      refine VL.r (.inr ⟨_, _, _, rfl, rfl, rfl⟩) rfl (by decide) (yr_move rfl rfl) ?_
      refine VL.q (.inr ⟨_, _, _, rfl, rfl, rfl⟩) rfl (by decide) (yq_callf rfl known17_Rv8 (.cons rfl .nil) (fun w hw => c_IsFinite _)) ?_
      refine VL.r (.inr ⟨_, _, _, rfl, rfl, rfl⟩) rfl (by decide) (yr_not rfl rfl) ?_
      refine VL.r (.inl rfl) rfl (by decide) (yr_pick_f rfl rfl rfl) ?_
      refine VL.nil ?_
      refine VE.then_wp ?_
      refine V.cond rfl (fun h3 => ?_) (fun h3 => ?_)
      · skip
        replace h3 := bnot_t h3
        rw [show fin 0 = true by decide +kernel] at h3; cases h3
      · skip
        replace h3 := bnot_f h3
        refine V.skip ?_
        refine VE.then_wp ?_
        refine V.seq ?_
        refine V.region ?_
        refine VL.r (.inl rfl) rfl (by decide) (yr_move rfl rfl) ?_
        refine VL.r (.inl rfl) rfl (by decide) (yr_build rfl lay27_Rv8 rfl (.cons rfl (.cons rfl .nil)) (by first | (simp; done) | (simp [vv]; done) | (simp [cn, cn1, cn0]; done)) rfl) ?_
        refine VL.new1 (.inl rfl) rfl (by decide) (yn_alloc rfl zero27_Rv8 rfl) ?_
        intro b10
        refine VL.s (.inl rfl) rfl (yc_store rfl sz27_Rv8 rfl rfl (by repeat (first | exact UpdF.here | apply UpdF.there | apply UpdF.thereS)) (.inr ⟨rfl, rfl⟩) rfl (by first | exact Nat.le_of_ble_eq_true rfl | simp) (by decide) rfl) ?_
        rintro ⟨⟩
        refine VL.nil ?_
        refine VE.then_wp ?_
        refine V.seq ?_
        refine V.seq ?_
        refine V.region ?_
        refine VL.r (.inl rfl) rfl (by decide) (yr_move rfl rfl) ?_
        refine VL.r (.inl rfl) rfl (by decide) (yr_move (u := .int .i64 0) rfl rfl) ?_
        refine VL.nil ?_
        refine VE.then_wp ?_
        refine V.block ?_
        refine V.loopc (G := Nat × (Option Addr) × Nat) [(0, _), (1, _), (2, _), (8, _), (10, _), (29, _)] (fun ⟨k, ar, cr⟩ => k ≤ 8) (fun ⟨k, ar, cr⟩ => [⟨ar, vl (i8L k), cr * 3, 32⟩, ⟨some ⟨b10, 0, none⟩, [.slice ar k cr, .bool true, .float .f32 1065353216], 3, 27⟩, ⟨some ⟨b8, 0, none⟩, [.slice none 0 0, .bool false, .float .f32 0], 3, 27⟩]) (fun ⟨k, ar, cr⟩ => [(30, .int .i64 (k : Int))]) (fun ⟨k, ar, cr⟩ => 8 - k) (0, none, 0) (.cons rfl (.cons rfl (.cons rfl (.cons rfl (.cons rfl (.cons rfl .nil)))))) (.cons rfl .nil) ?_ ?_ ?_
        · exact (fun w hw => (hw.nil 32).pick (by apply Pick.cons1; (· repeat (first | exact Rem.here | exact Rem.all | exact Rem.hereS | apply Rem.there | apply Rem.thereS)); apply Pick.cons1; (· repeat (first | exact Rem.here | exact Rem.all | exact Rem.hereS | apply Rem.there | apply Rem.thereS)); apply Pick.cons1; (· repeat (first | exact Rem.here | exact Rem.all | exact Rem.hereS | apply Rem.there | apply Rem.thereS)); exact Pick.nil))
        · exact (Nat.zero_le _)
        rintro ⟨k, ar, cr⟩ hk9
        show V _ _ _ [⟨ar, vl (i8L k), cr * 3, 32⟩, ⟨some ⟨b10, 0, none⟩, [.slice ar k cr, .bool true, .float .f32 1065353216], 3, 27⟩, ⟨some ⟨b8, 0, none⟩, [.slice none 0 0, .bool false, .float .f32 0], 3, 27⟩] ([(30, .int .i64 (k : Int))] ++ [(0, _), (1, _), (2, _), (8, _), (10, _), (29, _)]) _ _
        have hk : k ≤ 8 := hk9
        refine V.seq ?_
        refine V.region ?_
        refine VL.r (.inl rfl) rfl (by decide) (yr_icmp rfl (.inr (.inr (.inl rfl))) rfl rfl) ?_
        refine VL.nil ?_
        refine VE.then_wp ?_
        refine V.seq ?_
        refine V.cond rfl (fun h4 => ?_) (fun h4 => ?_)
        · skip
          replace h4 := ic_lss h4
          refine V.skip ?_
          refine VE.then_wp ?_
          refine V.seq ?_
          refine V.block ?_
          refine V.seq ?_
          refine V.region ?_
          refine VL.r (.inl rfl) rfl (by decide) (yr_move rfl rfl) ?_
          refine VL.r (.inl rfl) rfl (by decide) (yr_assign rfl rfl) ?_
          refine VL.nil ?_
          refine VE.then_wp ?_
          refine V.seq ?_
          refine V.region ?_
          refine VL.r (.inl rfl) rfl (by decide) (yr_move rfl rfl) ?_
          refine VL.r (.inl rfl) rfl (by decide) (yr_ofInt rfl Try.underlying2 Try.underlying25 rfl) ?_
          refine VL.r (.inl rfl) rfl (by decide) (yr_move rfl rfl) ?_
          refine VL.r (.inl rfl) rfl (by decide) (yr_ofInt rfl Try.underlying2 Try.underlying25 rfl) ?_
          refine VL.r (.inl rfl) rfl (by decide) (yr_float rfl (.inr (.inr (.inr rfl))) rfl rfl) ?_
          refine VL.r (.inl rfl) rfl (by decide) (yr_assign rfl rfl) ?_
          refine VL.nil ?_
          refine VE.then_wp ?_
          refine V.draw [(0, 0), (1, 0), (2, 0), (3, 0), (4, 0), (5, 0), (6, 0), (7, 0), (8, 0), (9, 0), (10, 0), (11, 0), (12, 0), (13, 1), (14, 3), (15, 0), (16, 3)] mixed_Rv8 (by kernel_rfl) (by intro j o hj; simp at hj) ?_
          refine SW.r rfl (.inl rfl) rfl (by decide) (yr_fieldAddr rfl Try.underlying27 rfl rfl sz24_Rv8 (by decide) rfl) ?_
          refine SW.q rfl (.inl rfl) rfl (by decide) (yq_load rfl fb24_Rv8 rfl (by first | exact Sees.root (by assumption) | exact Sees.own (by repeat (first | exact List.mem_cons_self | exact List.mem_append_left _ (by assumption) | apply List.mem_cons_of_mem | apply List.mem_append_right)) | exact Sees.root (hR _ (by omega)) | exact Sees.own (RowsIn.mem (by repeat (first | exact RowsIn.here | exact RowsIn.last | apply RowsIn.there | apply RowsIn.thereS)) _ (by omega)) | exact Sees.own (WRowsIn.mem (by repeat (first | exact WRowsIn.here | exact WRowsIn.last | apply WRowsIn.there | apply WRowsIn.thereS)) _ (by omega))) rfl) ?_
          refine SW.r rfl (.inl rfl) rfl (by decide) (yr_move rfl rfl) ?_
          refine SW.r rfl (.inl rfl) rfl (by decide) (yr_move rfl rfl) ?_
          refine SW.r rfl (.inl rfl) rfl (by decide) (yr_float (b := 1048576000) rfl (.inl rfl) rfl rfl) ?_
          refine SW.q rfl (.inl rfl) rfl (by decide) (yq_callf rfl known18_Rv8 (.cons rfl .nil) (fun w hw => (c_imSine (i := i8I k) (i8_ok1 (by omega))))) ?_
          refine SW.r rfl (.inl rfl) rfl (by decide) (yr_float rfl (.inr (.inr (.inl rfl))) rfl rfl) ?_
          refine SW.r rfl (.inl rfl) rfl (by decide) (yr_move rfl rfl) ?_
          refine SW.r rfl (.inl rfl) rfl (by decide) (yr_move rfl rfl) ?_
          refine SW.q rfl (.inl rfl) rfl (by decide) (yq_callf rfl known18_Rv8 (.cons rfl .nil) (fun w hw => (c_imSine (i := 0) (i8_ok2 (by omega))))) ?_
          refine SW.r rfl (.inl rfl) rfl (by decide) (yr_float rfl (.inr (.inr (.inl rfl))) rfl rfl) ?_
          refine SW.r rfl (.inl rfl) rfl (by decide) (yr_move rfl rfl) ?_
          refine SW.r rfl (.inl rfl) rfl (by decide) (yr_build rfl lay32_Rv8 rfl (.cons rfl (.cons rfl (.cons rfl .nil))) (by first | (simp; done) | (simp [vv]; done) | (simp [cn, cn1, cn0]; done)) rfl) ?_
          refine SW.new1 rfl (.inl rfl) rfl (by decide) (yn_buildSlice rfl Try.underlying24 elt32_Rv8 rfl (by decide) (.cons rfl .nil) (by first | (simp; done) | (simp [vv]; done)) rfl rfl) ?_
          intro b51
          refine SW.c rfl (.inl rfl) rfl (by decide) (yc_appendz 3 rfl rfl Try.underlying24 elt32_Rv8 rfl rfl (by repeat (first | exact UpdF.here | apply UpdF.there | apply UpdF.thereS)) (by first | exact Sees.root (by assumption) | exact Sees.own (by repeat (first | exact List.mem_cons_self | exact List.mem_append_left _ (by assumption) | apply List.mem_cons_of_mem | apply List.mem_append_right)) | exact Sees.root (hR _ (by omega)) | exact Sees.own (RowsIn.mem (by repeat (first | exact RowsIn.here | exact RowsIn.last | apply RowsIn.there | apply RowsIn.thereS)) _ (by omega)) | exact Sees.own (WRowsIn.mem (by repeat (first | exact WRowsIn.here | exact WRowsIn.last | apply WRowsIn.there | apply WRowsIn.thereS)) _ (by omega))) rfl (by first | (rw [vl_length]; done) | (rw [vl_length, i8L_length]; done) | rfl) rfl (by first | rfl | exact vl_scal _) rfl (by omega) (by omega)) ?_
          rintro ⟨a52, c52⟩
          refine SW.r rfl (.inl rfl) rfl (by decide) (yr_fieldAddr rfl Try.underlying27 rfl rfl sz24_Rv8 (by decide) rfl) ?_
          refine SW.s rfl (.inl rfl) rfl (yc_store rfl sz24_Rv8 rfl rfl (by repeat (first | exact UpdF.here | apply UpdF.there | apply UpdF.thereS)) (.inl ⟨rfl, rfl⟩) rfl (by first | exact Nat.le_of_ble_eq_true rfl | simp) (by decide) rfl) ?_
          rintro ⟨⟩
          refine SW.done ?_
          refine VE.block_normal ?_
          refine VE.then_wp ?_
          refine V.region ?_
          refine VL.r (.inl rfl) rfl (by decide) (yr_int rfl rfl rfl (.inl ⟨rfl, wrap_in (by omega)⟩)) ?_
          refine VL.r (.inl rfl) rfl (by decide) (yr_move rfl rfl) ?_
          refine VL.nil ?_
          refine VE.round (k + 1, a52, c52) ?_ ?_ ?_ ?_ ?_
          · exact (.cons rfl .nil)
          · exact (.cons rfl (.cons rfl (.cons rfl (.cons rfl (.cons rfl (.cons rfl .nil))))))
          · exact (fun w hw => by dsimp only; rw [← i8L_vl]; exact hw.pick (by apply Pick.cons1; (· repeat (first | exact Rem.here | exact Rem.all | exact Rem.hereS | apply Rem.there | apply Rem.thereS)); apply Pick.cons1; (· repeat (first | exact Rem.here | exact Rem.all | exact Rem.hereS | apply Rem.there | apply Rem.thereS)); apply Pick.cons1; (· repeat (first | exact Rem.here | exact Rem.all | exact Rem.hereS | apply Rem.there | apply Rem.thereS)); exact Pick.nil))
          · (try dsimp only); omega
          · (try dsimp only); omega
        · skip
          replace h4 := ic_lss' h4
          obtain rfl : k = 8 := by omega
          refine V.exit ?_
          refine VE.then_exit ?_
          refine VE.then_exit ?_
          refine VE.block_here ?_
          refine VE.then_wp ?_
          refine V.seq ?_
          refine V.region ?_
          refine VL.q (.inl rfl) rfl (by decide) (yq_loadS rfl Try.underlying27 sz27_Rv8 rfl (by first | exact Sees.root (by assumption) | exact Sees.own (by repeat (first | exact List.mem_cons_self | exact List.mem_append_left _ (by assumption) | apply List.mem_cons_of_mem | apply List.mem_append_right)) | exact Sees.root (hR _ (by omega)) | exact Sees.own (RowsIn.mem (by repeat (first | exact RowsIn.here | exact RowsIn.last | apply RowsIn.there | apply RowsIn.thereS)) _ (by omega)) | exact Sees.own (WRowsIn.mem (by repeat (first | exact WRowsIn.here | exact WRowsIn.last | apply WRowsIn.there | apply WRowsIn.thereS)) _ (by omega))) rfl rfl rfl) ?_
          refine VL.q (.inl rfl) rfl (by decide) (yq_callf rfl known19_Rv8 (.cons rfl .nil) (fun w hw => (c_ifWire (ps := i8L 8) (cl := true) (cur := 1065353216) (by first | exact Sees.root (by assumption) w hw | exact Sees.own (by repeat (first | exact List.mem_cons_self | exact List.mem_append_left _ (by assumption) | apply List.mem_cons_of_mem | apply List.mem_append_right)) w hw) (by rw [i8L_length]; decide) i8_wire))) ?_
          refine VL.r (.inl rfl) rfl (by decide) (yr_extract rfl rfl rfl (by nofun)) ?_
          refine VL.r (.inl rfl) rfl (by decide) (yr_extract rfl rfl rfl (by nofun)) ?_
          refine VL.s (.inl rfl) rfl (yc_store rfl sz27_Rv8 rfl rfl (by repeat (first | exact UpdF.here | apply UpdF.there | apply UpdF.thereS)) (.inr ⟨rfl, rfl⟩) rfl (by first | exact Nat.le_of_ble_eq_true rfl | simp) (by decide) rfl) ?_
          rintro ⟨⟩
          refine VL.r (.inl rfl) rfl (by decide) (yr_assign rfl rfl) ?_
          refine VL.nil ?_
          refine VE.then_wp ?_
          refine V.ret ?_
          refine retN rfl (.cons (rv_cellS rfl Try.underlying27 sz27_Rv8 (by first | exact Sees.root (by assumption) | exact Sees.own (by repeat (first | exact List.mem_cons_self | exact List.mem_append_left _ (by assumption) | apply List.mem_cons_of_mem | apply List.mem_append_right)) | exact Sees.root (hR _ (by omega)) | exact Sees.own (RowsIn.mem (by repeat (first | exact RowsIn.here | exact RowsIn.last | apply RowsIn.there | apply RowsIn.thereS)) _ (by omega)) | exact Sees.own (WRowsIn.mem (by repeat (first | exact WRowsIn.here | exact WRowsIn.last | apply WRowsIn.there | apply WRowsIn.thereS)) _ (by omega))) rfl rfl rfl) (.cons (rv_tmp rfl (by nofun)) .nil)) (by nofun) (fun w1 hw => ?_)
          exact ⟨(ar, cr), rfl, (hw.pick (by apply Pick.cons1; (· repeat (first | exact Rem.here | exact Rem.all | exact Rem.hereS | apply Rem.there | apply Rem.thereS)); exact Pick.nil)).out1⟩

end Go.Proofs.Ytfeciemlhiclbaa


namespace Go.Proofs.Ytfeciemlhiclbaa
open Go.RowKit

set_option maxRecDepth 20000
def rv (bs : List Int) : Nat → List Nat
  | 0 => [1065353216, 1056964608, 3196059648]
  | k + 1 => if k < bs.length then (rv bs k).set k (qw ((bs.getD k 0).toNat % 17)) else rv bs k
theorem rv_t {bs : List Int} {k : Nat} (h : k < bs.length) : rv bs (k + 1) = (rv bs k).set k (qw ((bs.getD k 0).toNat % 17)) := by
  show (if k < bs.length then _ else _) = _
  rw [if_pos h]
theorem rv_f {bs : List Int} {k : Nat} (h : ¬ k < bs.length) : rv bs (k + 1) = rv bs k := by
  show (if k < bs.length then _ else _) = _
  rw [if_neg h]
theorem rv_0 : qw 12 = 1065353216 ∧ qw 10 = 1056964608 ∧ qw 7 = 3196059648 := by decide +kernel
theorem rv_ok (bs : List Int) : ∀ k, (rv bs k).length = 3 ∧ ∀ y ∈ rv bs k, ∃ j, j < 17 ∧ y = qw j
  | 0 => ⟨rfl, fun y hy => by
    obtain ⟨h1, h2, h3⟩ := rv_0
    have hy2 : y = 1065353216 ∨ y = 1056964608 ∨ y = 3196059648 := by simpa [rv] using hy
    rcases hy2 with rfl | rfl | rfl
    · exact ⟨12, by decide, h1.symm⟩
    · exact ⟨10, by decide, h2.symm⟩
    · exact ⟨7, by decide, h3.symm⟩⟩
  | k + 1 => by
    obtain ⟨h1, h2⟩ := rv_ok bs k
    by_cases h : k < bs.length
    · rw [rv_t h]
      refine ⟨by rw [List.length_set]; exact h1, fun y hy => ?_⟩
      rcases List.mem_or_eq_of_mem_set hy with g | g
      · exact h2 y g
      · exact ⟨_, Nat.mod_lt _ (by decide), g⟩
    · rw [rv_f h]
      exact ⟨h1, h2⟩
theorem rv_at (bs : List Int) (k : Nat) {i : Nat} (hi : i < 3) : ∃ j, j < 17 ∧ (rv bs k).getD i 0 = qw j := by
  obtain ⟨h1, h2⟩ := rv_ok bs k
  refine h2 _ ?_
  rw [List.getD_eq_getElem?_getD, List.getElem?_eq_getElem (by omega)]
  exact List.getElem_mem _
end Go.Proofs.Ytfeciemlhiclbaa


namespace Go.Proofs.Ytfeciemlhiclbaa
open Go.RowKit
def Mx (ks : Nat → Nat) : Nat → Nat
  | 0 => 0
  | k + 1 => maxn (Mx ks k) (dst (ks k))
section
variable {ks : Nat → Nat} {n M : Nat} {vs us : List V3}
/-- The numbers are the quarters ks. -/
def Qs (vs : List V3) (ks : Nat → Nat) (n : Nat) : Prop := ∀ j, j < n → ks j < 17 ∧ num vs j = qw (ks j)
end
/-! ### what the text says -/
section
variable {f : V3} {st : Nat} {W H D : Nat} {vs : List V3}
end
end Go.Proofs.Ytfeciemlhiclbaa


namespace Go.Proofs.Ytfeciemlhiclbaa
open Go.RowKit Go.Deep
section
variable {P : Program} {w0 : World} {O : List Ent} {E : Env} {o : Oper}
theorem YQ.cast {u u' : Value} (h : u = u') (hy : YQ P w0 O E o u) : YQ P w0 O E o u' := h ▸ hy
end
theorem nn2 {k : FloatKind} {a b : Nat} (h1 : fnan k a = false) (h2 : fnan k b = false) : ∀ z ∈ [a, b], fnan k z = false := by
  intro z hz; simp only [List.mem_cons, List.mem_nil_iff, or_false] at hz; rcases hz with rfl | rfl <;> assumption
/-! ### texts that are cut, or longer -/
/-! ### a mesh of quarters -/
/-- What the law asks of a drawn mesh: T is its text. -/
structure PmF (k W H D : Nat) (vs : List V3) (T : ByteArray) (ks : Nat → Nat) : Prop where
  hT : pkT (hqw k, 0, 0) 1056964608 (W : Int) (H : Int) (D : Int) vs = T
  hk : pkOk (hqw k, 0, 0) 1056964608 (W : Int) (H : Int) (D : Int) vs = true
  ok : unOk T = true
  hT2 : pkT ((unG T).1, (unG T).2.1, (unG T).2.2) (unS T) (unI T 4) (unI T 5) (unI T 6) (unR T) = T
  hk2 : pkOk ((unG T).1, (unG T).2.1, (unG T).2.2) (unS T) (unI T 4) (unI T 5) (unI T 6) (unR T) = true
  len : (unR T).length = vs.length
  num : ∀ j, j < vs.length * 3 → num (unR T) j = rvw (Mx ks (vs.length * 3)) (ks j)
  qs : Qs vs ks (vs.length * 3)
  hX : Cans3 vs
  hf : Can3 (hqw k, 0, 0)
  hN : vs.length ≤ 48
section
variable {vs us : List V3} {ks : Nat → Nat} {i M : Nat}
end
end Go.Proofs.Ytfeciemlhiclbaa


namespace Go.Proofs.Ytfeciemlhiclbaa
open Go.RowKit
set_option linter.unusedVariables false
set_option linter.unusedSimpArgs false
set_option maxRecDepth 20000

theorem zero32_Rw8 : (Try.prog.info? 32).bind (·.zero) = some (Value.agg #[Value.float .f32 0, Value.float .f32 0, Value.float .f32 0]) := by kernel_rfl
theorem sz35_Rw8 : (Try.prog.info? 35).map (·.size) = some 8 := by kernel_rfl
theorem known8_Rw8 : Known Try.prog 8 := Known.mk' Try.func8 (by kernel_rfl)
theorem sz2_Rw8 : (Try.prog.info? 2).map (·.size) = some 1 := by kernel_rfl
theorem fb2_Rw8 : flatB Try.prog 2 = true := by kernel_rfl
theorem known28_Rw8 : Known Try.prog 28 := Known.mk' Try.func28 (by kernel_rfl)
theorem known25_Rw8 : Known Try.prog 25 := Known.mk' Try.func25 (by kernel_rfl)
theorem sz32_Rw8 : (Try.prog.info? 32).map (·.size) = some 3 := by kernel_rfl
theorem known27_Rw8 : Known Try.prog 27 := Known.mk' Try.func27 (by kernel_rfl)
theorem mixed_Rw8 : Try.prog.follows .mixedOrders = true := by kernel_rfl
theorem known29_Rw8 : Known Try.prog 29 := Known.mk' Try.func29 (by kernel_rfl)
theorem sz5_Rw8 : (Try.prog.info? 5).map (·.size) = some 1 := by kernel_rfl
theorem fb5_Rw8 : flatB Try.prog 5 = true := by kernel_rfl
theorem known20_Rw8 : Known Try.prog 20 := Known.mk' Try.func20 (by kernel_rfl)
theorem known24_Rw8 : Known Try.prog 24 := Known.mk' Try.func24 (by kernel_rfl)
theorem elt25_Rw8 : Elt Try.prog 25 [Value.float .f32 0] 4 := Elt.mk' (by kernel_rfl) (by decide)
theorem sz25_Rw8 : (Try.prog.info? 25).map (·.size) = some 1 := by kernel_rfl
theorem fb25_Rw8 : flatB Try.prog 25 = true := by kernel_rfl
theorem lay32_Rw8 : Lay Try.prog 32 [Value.float .f32 0, Value.float .f32 0, Value.float .f32 0] [(0, 1), (1, 1), (2, 1)] := Lay.mk' (by kernel_rfl) (by kernel_rfl)
attribute [local irreducible] fop fcmp fconv fneg fabs List.getD qw hqw fieldI

theorem c_nodeF {w : World} {f1 f2 f3 st W H D : Nat} {a : Option Addr} {c : Nat} {vs : List V3} {x y z : Nat} (hA : Cl w a (vl vs)) (hv : meshOk (f1, f2, f3) st (W : Int) (H : Int) (D : Int) vs.length = true) (hN : vs.length = W * H * D) (hbd : W * H * D ≤ 216) (hx : x < W) (hy : y < H) (hz : z < D) (hp : fin3 (place3 (f1, f2, f3) st (FloatKind.f32.nearest (x : Int)) (FloatKind.f32.nearest (y : Int)) (FloatKind.f32.nearest (z : Int))) = true) : Pure Try.prog 10 [.agg #[.float .f32 f1, .float .f32 f2, .float .f32 f3, .float .f32 st, .int .i64 (W : Int), .int .i64 (H : Int), .int .i64 (D : Int), .slice a vs.length c], .int .i64 (x : Int), .int .i64 (y : Int), .int .i64 (z : Int)] w (.tuple #[vv (place3 (f1, f2, f3) st (FloatKind.f32.nearest (x : Int)) (FloatKind.f32.nearest (y : Int)) (FloatKind.f32.nearest (z : Int))), vv (mval vs W H x y z), .bool true]) := by
  refine Pure.enter Try.func10 rfl Try.ntmps10 (Nat.le_of_ble_eq_true rfl) ?_
  have hnd := nd_facts (x := x) hx hy hz hbd
  unfold nd at hnd
  have hW8 : W ≤ 216 := by have := Nat.le_mul_of_pos_right W (show 0 < H * D from Nat.mul_pos (by omega) (by omega)); rw [← Nat.mul_assoc] at this; omega
  have hH8 : H ≤ 216 := by have := Nat.le_mul_of_pos_left H (show 0 < W * D from Nat.mul_pos (by omega) (by omega)); rw [Nat.mul_right_comm] at this; omega
  have hD8 : D ≤ 216 := by have := Nat.le_mul_of_pos_left D (show 0 < W * H from Nat.mul_pos (by omega) (by omega)); omega
  refine V.seq ?_
  refine V.region ?_
  refine VL.new1 (.inl rfl) rfl (by decide) (yn_box rfl rfl (.inr ⟨rfl, rfl⟩)) ?_
  intro b4
  refine VL.new1 (.inl rfl) rfl (by decide) (yn_alloc rfl zero32_Rw8 rfl) ?_
  intro b8
  refine VL.new1 (.inl rfl) rfl (by decide) (yn_alloc rfl zero32_Rw8 rfl) ?_
  intro b9
  refine VL.r (.inl rfl) rfl (by decide) (yr_assign (u := .bool false) rfl rfl) ?_
  refine VL.nil ?_
  refine VE.then_wp ?_
  refine V.seq ?_
  refine V.seq ?_
  refine V.region ?_
  refine VL.q (.inl rfl) rfl (by decide) (yq_loadS rfl Try.underlying35 sz35_Rw8 rfl (by first | exact Sees.root (by assumption) | exact Sees.own (by repeat (first | exact List.mem_cons_self | exact List.mem_append_left _ (by assumption) | apply List.mem_cons_of_mem | apply List.mem_append_right)) | exact Sees.root (hR _ (by omega)) | exact Sees.own (RowsIn.mem (by repeat (first | exact RowsIn.here | exact RowsIn.last | apply RowsIn.there | apply RowsIn.thereS)) _ (by omega)) | exact Sees.own (WRowsIn.mem (by repeat (first | exact WRowsIn.here | exact WRowsIn.last | apply WRowsIn.there | apply WRowsIn.thereS)) _ (by omega))) rfl rfl rfl) ?_
  refine VL.q (.inl rfl) rfl (by decide) (yq_callf rfl known8_Rw8 (.cons rfl .nil) (fun w hw => c_implMesh)) ?_
  refine VL.r (.inl rfl) rfl (by decide) (yr_not rfl rfl) ?_
  refine VL.r (.inl rfl) rfl (by decide) (yr_move rfl rfl) ?_
  refine VX.split 15 _ rfl (fun h1 => ?_) (fun h1 => ?_)
  · skip
    replace h1 := bnot_t h1
    rw [hv] at h1; cases h1
  · skip
    replace h1 := bnot_f h1
    refine VL.r (.inr ⟨_, _, _, rfl, rfl, rfl⟩) rfl (by decide) (yr_move rfl rfl) ?_
    refine VL.r (.inr ⟨_, _, _, rfl, rfl, rfl⟩) rfl (by decide) (yr_fieldAddr rfl Try.underlying35 rfl rfl sz2_Rw8 (by decide) rfl) ?_
    refine VL.q (.inr ⟨_, _, _, rfl, rfl, rfl⟩) rfl (by decide) (yq_load rfl fb2_Rw8 rfl (by first | exact Sees.root (by assumption) | exact Sees.own (by repeat (first | exact List.mem_cons_self | exact List.mem_append_left _ (by assumption) | apply List.mem_cons_of_mem | apply List.mem_append_right)) | exact Sees.root (hR _ (by omega)) | exact Sees.own (RowsIn.mem (by repeat (first | exact RowsIn.here | exact RowsIn.last | apply RowsIn.there | apply RowsIn.thereS)) _ (by omega)) | exact Sees.own (WRowsIn.mem (by repeat (first | exact WRowsIn.here | exact WRowsIn.last | apply WRowsIn.there | apply WRowsIn.thereS)) _ (by omega))) rfl) ?_
    refine VL.r (.inr ⟨_, _, _, rfl, rfl, rfl⟩) rfl (by decide) (yr_int rfl rfl rfl (.inr (.inl ⟨rfl, wrap_in (by omega)⟩))) ?_
    refine VL.q (.inr ⟨_, _, _, rfl, rfl, rfl⟩) rfl (by decide) (yq_callf rfl known28_Rw8 (.cons rfl (.cons rfl (.cons rfl .nil))) (fun w hw => c_within)) ?_
    refine VL.r (.inr ⟨_, _, _, rfl, rfl, rfl⟩) rfl (by decide) (yr_not rfl rfl) ?_
    refine VL.r (.inl rfl) rfl (by decide) (yr_pick_f rfl rfl rfl) ?_
    refine VL.r (.inl rfl) rfl (by decide) (yr_move rfl rfl) ?_
    refine VX.split 23 _ rfl (fun h2 => ?_) (fun h2 => ?_)
    · skip
      replace h2 := bnot_t h2
      exfalso; rw [decide_eq_false_iff_not] at h2; omega
    · skip
      replace h2 := bnot_f h2
      refine VL.r (.inr ⟨_, _, _, rfl, rfl, rfl⟩) rfl (by decide) (yr_move rfl rfl) ?_
      refine VL.r (.inr ⟨_, _, _, rfl, rfl, rfl⟩) rfl (by decide) (yr_fieldAddr rfl Try.underlying35 rfl rfl sz2_Rw8 (by decide) rfl) ?_
      refine VL.q (.inr ⟨_, _, _, rfl, rfl, rfl⟩) rfl (by decide) (yq_load rfl fb2_Rw8 rfl (by first | exact Sees.root (by assumption) | exact Sees.own (by repeat (first | exact List.mem_cons_self | exact List.mem_append_left _ (by assumption) | apply List.mem_cons_of_mem | apply List.mem_append_right)) | exact Sees.root (hR _ (by omega)) | exact Sees.own (RowsIn.mem (by repeat (first | exact RowsIn.here | exact RowsIn.last | apply RowsIn.there | apply RowsIn.thereS)) _ (by omega)) | exact Sees.own (WRowsIn.mem (by repeat (first | exact WRowsIn.here | exact WRowsIn.last | apply WRowsIn.there | apply WRowsIn.thereS)) _ (by omega))) rfl) ?_
      refine VL.r (.inr ⟨_, _, _, rfl, rfl, rfl⟩) rfl (by decide) (yr_int rfl rfl rfl (.inr (.inl ⟨rfl, wrap_in (by omega)⟩))) ?_
      refine VL.q (.inr ⟨_, _, _, rfl, rfl, rfl⟩) rfl (by decide) (yq_callf rfl known28_Rw8 (.cons rfl (.cons rfl (.cons rfl .nil))) (fun w hw => c_within)) ?_
      refine VL.r (.inr ⟨_, _, _, rfl, rfl, rfl⟩) rfl (by decide) (yr_not rfl rfl) ?_
      refine VL.r (.inl rfl) rfl (by decide) (yr_pick_f rfl rfl rfl) ?_
      refine VL.r (.inl rfl) rfl (by decide) (yr_move rfl rfl) ?_
      refine VX.split 31 _ rfl (fun h3 => ?_) (fun h3 => ?_)
      · skip
        replace h3 := bnot_t h3
        exfalso; rw [decide_eq_false_iff_not] at h3; omega
      · skip
        replace h3 := bnot_f h3
        refine VL.r (.inr ⟨_, _, _, rfl, rfl, rfl⟩) rfl (by decide) (yr_move rfl rfl) ?_
        refine VL.r (.inr ⟨_, _, _, rfl, rfl, rfl⟩) rfl (by decide) (yr_fieldAddr rfl Try.underlying35 rfl rfl sz2_Rw8 (by decide) rfl) ?_
        refine VL.q (.inr ⟨_, _, _, rfl, rfl, rfl⟩) rfl (by decide) (yq_load rfl fb2_Rw8 rfl (by first | exact Sees.root (by assumption) | exact Sees.own (by repeat (first | exact List.mem_cons_self | exact List.mem_append_left _ (by assumption) | apply List.mem_cons_of_mem | apply List.mem_append_right)) | exact Sees.root (hR _ (by omega)) | exact Sees.own (RowsIn.mem (by repeat (first | exact RowsIn.here | exact RowsIn.last | apply RowsIn.there | apply RowsIn.thereS)) _ (by omega)) | exact Sees.own (WRowsIn.mem (by repeat (first | exact WRowsIn.here | exact WRowsIn.last | apply WRowsIn.there | apply WRowsIn.thereS)) _ (by omega))) rfl) ?_
        refine VL.r (.inr ⟨_, _, _, rfl, rfl, rfl⟩) rfl (by decide) (yr_int rfl rfl rfl (.inr (.inl ⟨rfl, wrap_in (by omega)⟩))) ?_
        refine VL.q (.inr ⟨_, _, _, rfl, rfl, rfl⟩) rfl (by decide) (yq_callf rfl known28_Rw8 (.cons rfl (.cons rfl (.cons rfl .nil))) (fun w hw => c_within)) ?_
        refine VL.r (.inr ⟨_, _, _, rfl, rfl, rfl⟩) rfl (by decide) (yr_not rfl rfl) ?_
        refine VL.r (.inl rfl) rfl (by decide) (yr_pick_f rfl rfl rfl) ?_
        refine VL.nil ?_
        refine VE.then_wp ?_
        refine V.cond rfl (fun h4 => ?_) (fun h4 => ?_)
        · skip
          replace h4 := bnot_t h4
          exfalso; rw [decide_eq_false_iff_not] at h4; omega
        · skip
          replace h4 := bnot_f h4
          refine V.skip ?_
          refine VE.then_wp ?_
          refine V.seq ?_
          refine V.region ?_
          refine VL.q (.inl rfl) rfl (by decide) (yq_loadS rfl Try.underlying35 sz35_Rw8 rfl (by first | exact Sees.root (by assumption) | exact Sees.own (by repeat (first | exact List.mem_cons_self | exact List.mem_append_left _ (by assumption) | apply List.mem_cons_of_mem | apply List.mem_append_right)) | exact Sees.root (hR _ (by omega)) | exact Sees.own (RowsIn.mem (by repeat (first | exact RowsIn.here | exact RowsIn.last | apply RowsIn.there | apply RowsIn.thereS)) _ (by omega)) | exact Sees.own (WRowsIn.mem (by repeat (first | exact WRowsIn.here | exact WRowsIn.last | apply WRowsIn.there | apply WRowsIn.thereS)) _ (by omega))) rfl rfl rfl) ?_
          refine VL.r (.inl rfl) rfl (by decide) (yr_move rfl rfl) ?_
          refine VL.r (.inl rfl) rfl (by decide) (yr_ofInt rfl Try.underlying2 Try.underlying25 rfl) ?_
          refine VL.r (.inl rfl) rfl (by decide) (yr_move rfl rfl) ?_
          refine VL.r (.inl rfl) rfl (by decide) (yr_ofInt rfl Try.underlying2 Try.underlying25 rfl) ?_
          refine VL.r (.inl rfl) rfl (by decide) (yr_move rfl rfl) ?_
          refine VL.r (.inl rfl) rfl (by decide) (yr_ofInt rfl Try.underlying2 Try.underlying25 rfl) ?_
          refine VL.q (.inl rfl) rfl (by decide) (yq_callf rfl known25_Rw8 (.cons rfl (.cons rfl (.cons rfl (.cons rfl .nil)))) (fun w hw => c_place)) ?_
          refine VL.new1 (.inl rfl) rfl (by decide) (yn_alloc rfl zero32_Rw8 rfl) ?_
          intro b11
          refine VL.s (.inl rfl) rfl (yc_store rfl sz32_Rw8 rfl rfl (by repeat (first | exact UpdF.here | apply UpdF.there | apply UpdF.thereS)) (.inr ⟨rfl, rfl⟩) rfl (by first | exact Nat.le_of_ble_eq_true rfl | simp) (by decide) rfl) ?_
          rintro ⟨⟩
          refine VL.nil ?_
          refine VE.then_wp ?_
          refine V.seq ?_
          refine V.seq ?_
          refine V.region ?_
          refine VL.q (.inl rfl) rfl (by decide) (yq_loadS rfl Try.underlying32 sz32_Rw8 rfl (by first | exact Sees.root (by assumption) | exact Sees.own (by repeat (first | exact List.mem_cons_self | exact List.mem_append_left _ (by assumption) | apply List.mem_cons_of_mem | apply List.mem_append_right)) | exact Sees.root (hR _ (by omega)) | exact Sees.own (RowsIn.mem (by repeat (first | exact RowsIn.here | exact RowsIn.last | apply RowsIn.there | apply RowsIn.thereS)) _ (by omega)) | exact Sees.own (WRowsIn.mem (by repeat (first | exact WRowsIn.here | exact WRowsIn.last | apply WRowsIn.there | apply WRowsIn.thereS)) _ (by omega))) rfl rfl rfl) ?_
          refine VL.q (.inl rfl) rfl (by decide) (yq_callf rfl known27_Rw8 (.cons rfl .nil) (fun w hw => c_fin3)) ?_
          refine VL.r (.inl rfl) rfl (by decide) (yr_not rfl rfl) ?_
          refine VL.nil ?_
          refine VE.then_wp ?_
          refine V.cond rfl (fun h5 => ?_) (fun h5 => ?_)
          · skip
            replace h5 := bnot_t h5
            exact absurd (hp.symm.trans h5) (by decide)
          · skip
            replace h5 := bnot_f h5
            refine V.skip ?_
            refine VE.then_wp ?_
            refine V.seq ?_
            refine V.draw [(0, 0), (1, 0), (2, 0), (3, 0), (4, 0), (5, 0), (6, 3), (7, 3), (8, 0)] mixed_Rw8 (by kernel_rfl) (by intro j o hj; simp at hj) ?_
            refine SW.q rfl (.inl rfl) rfl (by decide) (yq_loadS rfl Try.underlying32 sz32_Rw8 rfl (by first | exact Sees.root (by assumption) | exact Sees.own (by repeat (first | exact List.mem_cons_self | exact List.mem_append_left _ (by assumption) | apply List.mem_cons_of_mem | apply List.mem_append_right)) | exact Sees.root (hR _ (by omega)) | exact Sees.own (RowsIn.mem (by repeat (first | exact RowsIn.here | exact RowsIn.last | apply RowsIn.there | apply RowsIn.thereS)) _ (by omega)) | exact Sees.own (WRowsIn.mem (by repeat (first | exact WRowsIn.here | exact WRowsIn.last | apply WRowsIn.there | apply WRowsIn.thereS)) _ (by omega))) rfl rfl rfl) ?_
            refine SW.q rfl (.inl rfl) rfl (by decide) (yq_loadS rfl Try.underlying35 sz35_Rw8 rfl (by first | exact Sees.root (by assumption) | exact Sees.own (by repeat (first | exact List.mem_cons_self | exact List.mem_append_left _ (by assumption) | apply List.mem_cons_of_mem | apply List.mem_append_right)) | exact Sees.root (hR _ (by omega)) | exact Sees.own (RowsIn.mem (by repeat (first | exact RowsIn.here | exact RowsIn.last | apply RowsIn.there | apply RowsIn.thereS)) _ (by omega)) | exact Sees.own (WRowsIn.mem (by repeat (first | exact WRowsIn.here | exact WRowsIn.last | apply WRowsIn.there | apply WRowsIn.thereS)) _ (by omega))) rfl rfl rfl) ?_
            refine SW.r rfl (.inl rfl) rfl (by decide) (yr_move rfl rfl) ?_
            refine SW.r rfl (.inl rfl) rfl (by decide) (yr_move rfl rfl) ?_
            refine SW.r rfl (.inl rfl) rfl (by decide) (yr_move rfl rfl) ?_
            refine SW.q rfl (.inl rfl) rfl (by decide) (yq_callf rfl known29_Rw8 (.cons rfl (.cons rfl (.cons rfl (.cons rfl .nil)))) (fun w hw => (c_at (x := x) (y := y) (z := z) (by first | exact Sees.root (by assumption) w hw | exact Sees.own (by repeat (first | exact List.mem_cons_self | exact List.mem_append_left _ (by assumption) | apply List.mem_cons_of_mem | apply List.mem_append_right)) w hw) hN hbd hx hy hz))) ?_
            refine SW.s rfl (.inl rfl) rfl (yc_store rfl sz32_Rw8 rfl rfl (by repeat (first | exact UpdF.here | apply UpdF.there | apply UpdF.thereS)) (.inr ⟨rfl, rfl⟩) rfl (by first | exact Nat.le_of_ble_eq_true rfl | simp) (by decide) rfl) ?_
            rintro ⟨⟩
            refine SW.s rfl (.inl rfl) rfl (yc_store rfl sz32_Rw8 rfl rfl (by repeat (first | exact UpdF.here | apply UpdF.there | apply UpdF.thereS)) (.inr ⟨rfl, rfl⟩) rfl (by first | exact Nat.le_of_ble_eq_true rfl | simp) (by decide) rfl) ?_
            rintro ⟨⟩
            refine SW.r rfl (.inl rfl) rfl (by decide) (yr_assign (u := .bool true) rfl rfl) ?_
            refine SW.done ?_
            refine VE.then_wp ?_
            refine V.ret ?_
            refine retN rfl (.cons (rv_cellS rfl Try.underlying32 sz32_Rw8 (by first | exact Sees.root (by assumption) | exact Sees.own (by repeat (first | exact List.mem_cons_self | exact List.mem_append_left _ (by assumption) | apply List.mem_cons_of_mem | apply List.mem_append_right)) | exact Sees.root (hR _ (by omega)) | exact Sees.own (RowsIn.mem (by repeat (first | exact RowsIn.here | exact RowsIn.last | apply RowsIn.there | apply RowsIn.thereS)) _ (by omega)) | exact Sees.own (WRowsIn.mem (by repeat (first | exact WRowsIn.here | exact WRowsIn.last | apply WRowsIn.there | apply WRowsIn.thereS)) _ (by omega))) rfl rfl rfl) (.cons (rv_cellS rfl Try.underlying32 sz32_Rw8 (by first | exact Sees.root (by assumption) | exact Sees.own (by repeat (first | exact List.mem_cons_self | exact List.mem_append_left _ (by assumption) | apply List.mem_cons_of_mem | apply List.mem_append_right)) | exact Sees.root (hR _ (by omega)) | exact Sees.own (RowsIn.mem (by repeat (first | exact RowsIn.here | exact RowsIn.last | apply RowsIn.there | apply RowsIn.thereS)) _ (by omega)) | exact Sees.own (WRowsIn.mem (by repeat (first | exact WRowsIn.here | exact WRowsIn.last | apply WRowsIn.there | apply WRowsIn.thereS)) _ (by omega))) rfl rfl rfl) (.cons (rv_tmp rfl (by nofun)) .nil))) (by nofun) (fun w1 hw => ?_)
            exact ⟨rfl, hw.below⟩

theorem c_r8LongF {w : World} {a b : Option Addr} {c d n m : Nat} : Pure Try.prog 4 [.slice a n c, .slice b m d] w (.bool (decide (48 < n) || decide (48 < m))) := by
  refine Pure.enter Try.func4 rfl Try.ntmps4 (Nat.le_of_ble_eq_true rfl) ?_
  refine V.seq ?_
  refine V.region ?_
  refine VL.r (.inl rfl) rfl (by decide) (yr_assign (u := .bool false) rfl rfl) ?_
  refine VL.nil ?_
  refine VE.then_wp ?_
  refine V.seq ?_
  refine V.region ?_
  refine VL.r (.inl rfl) rfl (by decide) (yr_move rfl rfl) ?_
  refine VL.r (.inl rfl) rfl (by decide) (yr_len rfl Try.underlying22 rfl) ?_
  refine VL.r (.inl rfl) rfl (by decide) (yr_icmp rfl (.inr (.inr (.inr (.inr (.inl rfl))))) rfl rfl) ?_
  refine VL.r (.inl rfl) rfl (by decide) (yr_move rfl rfl) ?_
  refine VX.split 8 _ rfl (fun h1 => ?_) (fun h1 => ?_)
  · skip
    replace h1 := ic_gtr h1
    refine VL.no rfl rfl rfl rfl rfl (by decide) ?_
    refine VL.no rfl rfl rfl rfl rfl (by decide) ?_
    refine VL.no rfl rfl rfl rfl rfl (by decide) ?_
    refine VL.r (.inl rfl) rfl (by decide) (yr_pick_t (u := .bool true) rfl rfl rfl) ?_
    refine VL.r (.inl rfl) rfl (by decide) (yr_assign rfl rfl) ?_
    refine VL.nil ?_
    refine VE.then_wp ?_
    refine V.ret ?_
    refine ret1 rfl rfl (fun w1 hw => ?_)
    first
      | exact ⟨congrArg Value.bool (by rw [decide_eq_true (show 48 < n by omega)]; rfl), hw.below⟩
      | exact ⟨congrArg Value.bool (by rw [decide_eq_false (show ¬ 48 < n by omega), Bool.false_or]; exact decide_eq_decide.2 (by omega)), hw.below⟩
  · skip
    replace h1 := ic_gtr' h1
    refine VL.r (.inr ⟨_, _, _, rfl, rfl, rfl⟩) rfl (by decide) (yr_move rfl rfl) ?_
    refine VL.r (.inr ⟨_, _, _, rfl, rfl, rfl⟩) rfl (by decide) (yr_len rfl Try.underlying22 rfl) ?_
    refine VL.r (.inr ⟨_, _, _, rfl, rfl, rfl⟩) rfl (by decide) (yr_icmp rfl (.inr (.inr (.inr (.inr (.inl rfl))))) rfl rfl) ?_
    refine VL.r (.inl rfl) rfl (by decide) (yr_pick_f rfl rfl rfl) ?_
    refine VL.r (.inl rfl) rfl (by decide) (yr_assign rfl rfl) ?_
    refine VL.nil ?_
    refine VE.then_wp ?_
    refine V.ret ?_
    refine ret1 rfl rfl (fun w1 hw => ?_)
    first
      | exact ⟨congrArg Value.bool (by rw [decide_eq_true (show 48 < n by omega)]; rfl), hw.below⟩
      | exact ⟨congrArg Value.bool (by rw [decide_eq_false (show ¬ 48 < n by omega), Bool.false_or]; exact decide_eq_decide.2 (by omega)), hw.below⟩

theorem c_r8AtF {w : World} {a : Option Addr} {c k m : Nat} {bs : List Int} (hA : Cl w a (bl bs)) (hb : Bytes bs) (hl : bs.length ≤ 2000000) (hm : 1 ≤ m) : New Try.prog 9 [.slice a bs.length c, .int .i64 (k : Int), .int .i64 (m : Int)] w (fun x : {x : Nat // x < m} => .int .i64 ((x.1 : Nat) : Int)) (fun _ => []) := by
  refine New.enter Try.func9 rfl Try.ntmps9 (Nat.le_of_ble_eq_true rfl) ?_
  refine V.seq ?_
  refine V.region ?_
  refine VL.r (.inl rfl) rfl (by decide) (yr_assign (u := .int .i64 0) rfl rfl) ?_
  refine VL.nil ?_
  refine VE.then_wp ?_
  refine V.seq ?_
  refine V.seq ?_
  refine V.region ?_
  refine VL.r (.inl rfl) rfl (by decide) (yr_move rfl rfl) ?_
  refine VL.r (.inl rfl) rfl (by decide) (yr_icmp rfl (.inr (.inr (.inr (.inl rfl)))) rfl rfl) ?_
  refine VL.r (.inl rfl) rfl (by decide) (yr_move rfl rfl) ?_
  refine VX.split 9 _ rfl (fun h1 => ?_) (fun h1 => ?_)
  · skip
    replace h1 := ic_leq h1
    refine VL.no rfl rfl rfl rfl rfl (by decide) ?_
    refine VL.no rfl rfl rfl rfl rfl (by decide) ?_
    refine VL.no rfl rfl rfl rfl rfl (by decide) ?_
    refine VL.no rfl rfl rfl rfl rfl (by decide) ?_
    refine VL.r (.inl rfl) rfl (by decide) (yr_pick_t (u := .bool true) rfl rfl rfl) ?_
    refine VL.nil ?_
    refine VE.then_wp ?_
    refine V.condT rfl ?_
    refine V.seq ?_
    refine V.region ?_
    refine VL.r (.inl rfl) rfl (by decide) (yr_assign (u := .int .i64 0) rfl rfl) ?_
    refine VL.nil ?_
    refine VE.then_wp ?_
    refine V.ret ?_
    refine VE.then_ret ?_
    refine ret1 rfl rfl (fun w1 hw => ?_)
    first
      | exact ⟨⟨0, by omega⟩, rfl, hw.below, (fun _ h => by cases h), List.Pairwise.nil⟩
      | exact ⟨⟨(bs.getD k 0).toNat % m, Nat.mod_lt _ (by omega)⟩, rfl, hw.below, (fun _ h => by cases h), List.Pairwise.nil⟩
  · skip
    replace h1 := ic_leq' h1
    refine VL.r (.inr ⟨_, _, _, rfl, rfl, rfl⟩) rfl (by decide) (yr_move rfl rfl) ?_
    refine VL.r (.inr ⟨_, _, _, rfl, rfl, rfl⟩) rfl (by decide) (yr_move rfl rfl) ?_
    refine VL.r (.inr ⟨_, _, _, rfl, rfl, rfl⟩) rfl (by decide) (yr_len rfl Try.underlying22 rfl) ?_
    refine VL.r (.inr ⟨_, _, _, rfl, rfl, rfl⟩) rfl (by decide) (yr_icmp rfl (.inr (.inr (.inr (.inr (.inr rfl))))) rfl rfl) ?_
    refine VL.r (.inl rfl) rfl (by decide) (yr_pick_f rfl rfl rfl) ?_
    refine VL.nil ?_
    refine VE.then_wp ?_
    refine V.cond rfl (fun h3 => ?_) (fun h3 => ?_)
    · skip
      replace h3 := ic_geq h3
      refine V.seq ?_
      refine V.region ?_
      refine VL.r (.inl rfl) rfl (by decide) (yr_assign (u := .int .i64 0) rfl rfl) ?_
      refine VL.nil ?_
      refine VE.then_wp ?_
      refine V.ret ?_
      refine VE.then_ret ?_
      refine ret1 rfl rfl (fun w1 hw => ?_)
      first
        | exact ⟨⟨0, by omega⟩, rfl, hw.below, (fun _ h => by cases h), List.Pairwise.nil⟩
        | exact ⟨⟨(bs.getD k 0).toNat % m, Nat.mod_lt _ (by omega)⟩, rfl, hw.below, (fun _ h => by cases h), List.Pairwise.nil⟩
    · skip
      replace h3 := ic_geq' h3
      have hbn := byte_get hb (show k < bs.length by omega)
      refine V.skip ?_
      refine VE.then_wp ?_
      refine V.seq ?_
      refine V.region ?_
      refine VL.r (.inl rfl) rfl (by decide) (yr_move rfl rfl) ?_
      refine VL.r (.inl rfl) rfl (by decide) (yr_move rfl rfl) ?_
      refine VL.q (.inl rfl) rfl (by decide) (yq_idx (k := k) rfl Try.underlying22 sz5_Rw8 rfl rfl (by first | exact Sees.root (by assumption) | exact Sees.own (by repeat (first | exact List.mem_cons_self | exact List.mem_append_left _ (by assumption) | apply List.mem_cons_of_mem | apply List.mem_append_right)) | exact Sees.root (hR _ (by omega)) | exact Sees.own (RowsIn.mem (by repeat (first | exact RowsIn.here | exact RowsIn.last | apply RowsIn.there | apply RowsIn.thereS)) _ (by omega)) | exact Sees.own (WRowsIn.mem (by repeat (first | exact WRowsIn.here | exact WRowsIn.last | apply WRowsIn.there | apply WRowsIn.thereS)) _ (by omega))) (by first | rfl | omega | (push_cast; rfl) | (push_cast; omega) | exact tmod_nat _ _) (by exact bl_length _) (by omega)) ?_
      refine VL.q (.inl rfl) rfl (by decide) (yq_load (u := .int .u8 (bs.getD k 0)) rfl fb5_Rw8 rfl (by first | exact Sees.root (by assumption) | exact Sees.own (by repeat (first | exact List.mem_cons_self | exact List.mem_append_left _ (by assumption) | apply List.mem_cons_of_mem | apply List.mem_append_right)) | exact Sees.root (hR _ (by omega)) | exact Sees.own (RowsIn.mem (by repeat (first | exact RowsIn.here | exact RowsIn.last | apply RowsIn.there | apply RowsIn.thereS)) _ (by omega)) | exact Sees.own (WRowsIn.mem (by repeat (first | exact WRowsIn.here | exact WRowsIn.last | apply WRowsIn.there | apply WRowsIn.thereS)) _ (by omega))) (bl_get (by omega))) ?_
      refine VL.r (.inl rfl) rfl (by decide) (yr_intConv (r := bs.getD k 0) rfl Try.underlying5 Try.underlying2 rfl (wrap_in (by omega))) ?_
      refine VL.r (.inl rfl) rfl (by decide) (yr_move rfl rfl) ?_
      refine VL.r (.inl rfl) rfl (by decide) (yr_remN (bs.getD k 0).toNat m rfl rfl rfl (by rw [Int.toNat_of_nonneg hbn.1]) rfl (by omega)) ?_
      refine VL.r (.inl rfl) rfl (by decide) (yr_assign rfl rfl) ?_
      refine VL.nil ?_
      refine VE.then_wp ?_
      refine V.ret ?_
      refine ret1 rfl rfl (fun w1 hw => ?_)
      first
        | exact ⟨⟨0, by omega⟩, rfl, hw.below, (fun _ h => by cases h), List.Pairwise.nil⟩
        | exact ⟨⟨(bs.getD k 0).toNat % m, Nat.mod_lt _ (by omega)⟩, rfl, hw.below, (fun _ h => by cases h), List.Pairwise.nil⟩

theorem c_r8GapF {w : World} {x y : Nat} (hx : fnan .f64 (fop .sub .f64 x y) = false) (hy : fnan .f64 (fop .sub .f64 y x) = false) : Pure Try.prog 14 [.float .f64 x, .float .f64 y] w (.float .f64 (gap64 x y)) := by
  refine Pure.enter Try.func14 rfl Try.ntmps14 (Nat.le_of_ble_eq_true rfl) ?_
  refine V.seq ?_
  refine V.region ?_
  refine VL.r (.inl rfl) rfl (by decide) (yr_assign (u := .float .f64 0) rfl rfl) ?_
  refine VL.nil ?_
  refine VE.then_wp ?_
  refine V.seq ?_
  refine V.region ?_
  refine VL.r (.inl rfl) rfl (by decide) (yr_move rfl rfl) ?_
  refine VL.r (.inl rfl) rfl (by decide) (yr_move rfl rfl) ?_
  refine VL.r (.inl rfl) rfl (by decide) (yr_float rfl (.inr (.inl rfl)) rfl rfl) ?_
  refine VL.r (.inl rfl) rfl (by decide) (yr_move rfl rfl) ?_
  refine VL.r (.inl rfl) rfl (by decide) (yr_move rfl rfl) ?_
  refine VL.r (.inl rfl) rfl (by decide) (yr_float rfl (.inr (.inl rfl)) rfl rfl) ?_
  refine VL.r (.inl rfl) rfl (by decide) (yr_maxF (k := .f64) (fop .sub .f64 x y) [fop .sub .f64 y x] rfl (.cons rfl (.cons rfl .nil)) (nn2 hx hy)) ?_
  refine VL.r (.inl rfl) rfl (by decide) (yr_assign rfl rfl) ?_
  refine VL.nil ?_
  refine VE.then_wp ?_
  refine V.ret ?_
  refine ret1 rfl rfl (fun w1 hw => ?_)
  exact ⟨by unfold gap64; rfl, hw.below⟩

theorem c_fieldIE {w : World} {a : Option Addr} {c : Nat} {f : Nat → Option Addr × Nat} {ws : List Wr} {p1 p2 p3 : Nat} (hA : Cl w a (whd f ws)) (hR : WRws w f ws) (hn : wbulk ws ≤ 1050000) (hv : wiresOk ws = true) (hp : fin3 (p1, p2, p3) = true) (hf : fin3 (fieldI ws (p1, p2, p3)) = true) : Pure Try.prog 11 [.slice a ws.length c, vv (p1, p2, p3)] w (.tuple #[vv (fieldI ws (p1, p2, p3)), .bool true]) := by
  refine Pure.enter Try.func11 rfl Try.ntmps11 (Nat.le_of_ble_eq_true rfl) ?_
  have hwl : ws.length ≤ wbulk ws := by unfold wbulk; omega
  have hrw : ∀ k, k < ws.length → (ws.getD k zw).1.length ≤ 1050000 := fun k hk => by have := wbulk_row hk; omega
  refine V.seq ?_
  refine V.region ?_
  refine VL.new1 (.inl rfl) rfl (by decide) (yn_box rfl rfl (.inr ⟨rfl, rfl⟩)) ?_
  intro b3
  refine VL.new1 (.inl rfl) rfl (by decide) (yn_alloc rfl zero32_Rw8 rfl) ?_
  intro b4
  refine VL.r (.inl rfl) rfl (by decide) (yr_assign (u := .bool false) rfl rfl) ?_
  refine VL.nil ?_
  refine VE.then_wp ?_
  refine V.seq ?_
  refine V.seq ?_
  refine V.region ?_
  refine VL.r (.inl rfl) rfl (by decide) (yr_move rfl rfl) ?_
  refine VL.q (.inl rfl) rfl (by decide) (yq_callf rfl known20_Rw8 (.cons rfl .nil) (fun w hw => (c_implAre (by first | exact Sees.root (by assumption) w hw | exact Sees.own (by repeat (first | exact List.mem_cons_self | exact List.mem_append_left _ (by assumption) | apply List.mem_cons_of_mem | apply List.mem_append_right)) w hw) (by first | exact WRws.root (by assumption) hw | exact WRws.own (by repeat (first | exact WRowsIn.here | exact WRowsIn.last | apply WRowsIn.there | apply WRowsIn.thereS)) hw) (by omega)))) ?_
  refine VL.r (.inl rfl) rfl (by decide) (yr_not rfl rfl) ?_
  refine VL.nil ?_
  refine VE.then_wp ?_
  refine V.cond rfl (fun h1 => ?_) (fun h1 => ?_)
  · skip
    replace h1 := bnot_t h1
    rw [hv] at h1; cases h1
  · skip
    replace h1 := bnot_f h1
    refine V.skip ?_
    refine VE.then_wp ?_
    refine V.seq ?_
    refine V.region ?_
    refine VL.r (.inl rfl) rfl (by decide) (yr_move rfl rfl) ?_
    refine VL.q (.inl rfl) rfl (by decide) (yq_loadS rfl Try.underlying32 sz32_Rw8 rfl (by first | exact Sees.root (by assumption) | exact Sees.own (by repeat (first | exact List.mem_cons_self | exact List.mem_append_left _ (by assumption) | apply List.mem_cons_of_mem | apply List.mem_append_right)) | exact Sees.root (hR _ (by omega)) | exact Sees.own (RowsIn.mem (by repeat (first | exact RowsIn.here | exact RowsIn.last | apply RowsIn.there | apply RowsIn.thereS)) _ (by omega)) | exact Sees.own (WRowsIn.mem (by repeat (first | exact WRowsIn.here | exact WRowsIn.last | apply WRowsIn.there | apply WRowsIn.thereS)) _ (by omega))) rfl rfl rfl) ?_
    refine VL.q (.inl rfl) rfl (by decide) (yq_callf rfl known24_Rw8 (.cons rfl (.cons rfl .nil)) (fun w hw => (c_fieldAll (by first | exact Sees.root (by assumption) w hw | exact Sees.own (by repeat (first | exact List.mem_cons_self | exact List.mem_append_left _ (by assumption) | apply List.mem_cons_of_mem | apply List.mem_append_right)) w hw) (by first | exact WRws.root (by assumption) hw | exact WRws.own (by repeat (first | exact WRowsIn.here | exact WRowsIn.last | apply WRowsIn.there | apply WRowsIn.thereS)) hw) (by omega) hv))) ?_
    refine VL.r (.inl rfl) rfl (by decide) (yr_move rfl rfl) ?_
    refine VL.r (.inl rfl) rfl (by decide) (yr_extract rfl rfl rfl (by nofun)) ?_
    refine VL.r (.inl rfl) rfl (by decide) (yr_extract rfl rfl rfl (by nofun)) ?_
    refine VL.new1 (.inl rfl) rfl (by decide) (yn_alloc rfl zero32_Rw8 rfl) ?_
    intro b6
    refine VL.s (.inl rfl) rfl (yc_store rfl sz32_Rw8 rfl rfl (by repeat (first | exact UpdF.here | apply UpdF.there | apply UpdF.thereS)) (.inr ⟨rfl, rfl⟩) rfl (by first | exact Nat.le_of_ble_eq_true rfl | simp) (by decide) rfl) ?_
    rintro ⟨⟩
    refine VL.r (.inl rfl) rfl (by decide) (yr_assign rfl rfl) ?_
    refine VL.nil ?_
    refine VE.then_wp ?_
    refine V.seq ?_
    refine V.seq ?_
    refine V.region ?_
    refine VL.r (.inl rfl) rfl (by decide) (yr_move rfl rfl) ?_
    refine VL.r (.inl rfl) rfl (by decide) (yr_not rfl rfl) ?_
    refine VL.nil ?_
    refine VE.then_wp ?_
    refine V.cond rfl (fun h2 => ?_) (fun h2 => ?_)
    · skip
      replace h2 := bnot_t h2
      rw [hp, hf] at h2; cases h2
    · skip
      replace h2 := bnot_f h2
      refine V.skip ?_
      refine VE.then_wp ?_
      refine V.seq ?_
      refine V.region ?_
      refine VL.q (.inl rfl) rfl (by decide) (yq_loadS rfl Try.underlying32 sz32_Rw8 rfl (by first | exact Sees.root (by assumption) | exact Sees.own (by repeat (first | exact List.mem_cons_self | exact List.mem_append_left _ (by assumption) | apply List.mem_cons_of_mem | apply List.mem_append_right)) | exact Sees.root (hR _ (by omega)) | exact Sees.own (RowsIn.mem (by repeat (first | exact RowsIn.here | exact RowsIn.last | apply RowsIn.there | apply RowsIn.thereS)) _ (by omega)) | exact Sees.own (WRowsIn.mem (by repeat (first | exact WRowsIn.here | exact WRowsIn.last | apply WRowsIn.there | apply WRowsIn.thereS)) _ (by omega))) rfl rfl rfl) ?_
      refine VL.s (.inl rfl) rfl (yc_store rfl sz32_Rw8 rfl rfl (by repeat (first | exact UpdF.here | apply UpdF.there | apply UpdF.thereS)) (.inr ⟨rfl, rfl⟩) rfl (by first | exact Nat.le_of_ble_eq_true rfl | simp) (by decide) rfl) ?_
      rintro ⟨⟩
      refine VL.r (.inl rfl) rfl (by decide) (yr_assign (u := .bool true) rfl rfl) ?_
      refine VL.nil ?_
      refine VE.then_wp ?_
      refine V.ret ?_
      refine retN rfl (.cons (rv_cellS rfl Try.underlying32 sz32_Rw8 (by first | exact Sees.root (by assumption) | exact Sees.own (by repeat (first | exact List.mem_cons_self | exact List.mem_append_left _ (by assumption) | apply List.mem_cons_of_mem | apply List.mem_append_right)) | exact Sees.root (hR _ (by omega)) | exact Sees.own (RowsIn.mem (by repeat (first | exact RowsIn.here | exact RowsIn.last | apply RowsIn.there | apply RowsIn.thereS)) _ (by omega)) | exact Sees.own (WRowsIn.mem (by repeat (first | exact WRowsIn.here | exact WRowsIn.last | apply WRowsIn.there | apply WRowsIn.thereS)) _ (by omega))) rfl rfl rfl) (.cons (rv_tmp rfl (by nofun)) .nil)) (by nofun) (fun w1 hw => ?_)
      exact ⟨rfl, hw.below⟩

theorem c_r8Vec {w : World} {a : Option Addr} {c : Nat} {bs : List Int} (hA : Cl w a (bl bs)) (hb : Bytes bs) (hl : bs.length ≤ 2000000) : New Try.prog 6 [.slice a bs.length c, .int .i64 0] w (fun x : {x : Nat × Nat × Nat // x.1 < 17 ∧ x.2.1 < 17 ∧ x.2.2 < 17} => .agg #[.float .f32 (qw x.1.1), .float .f32 (qw x.1.2.1), .float .f32 (qw x.1.2.2)]) (fun _ => []) := by
  refine New.enter Try.func6 rfl Try.ntmps6 (Nat.le_of_ble_eq_true rfl) ?_
  refine V.seq ?_
  refine V.region ?_
  refine VL.new1 (.inl rfl) rfl (by decide) (yn_alloc rfl zero32_Rw8 rfl) ?_
  intro b4
  refine VL.nil ?_
  refine VE.then_wp ?_
  refine V.seq ?_
  refine V.region ?_
  refine VL.new1 (.inl rfl) rfl (by decide) (yn_lit rfl Try.underlying46 elt25_Rw8 rfl (by decide) (.cons rfl (.cons rfl (.cons rfl .nil))) (by first | (simp; done) | (simp [cn, cn1, cn0]; done)) rfl rfl rfl) ?_
  intro b7
  refine VL.r (.inl rfl) rfl (by decide) (yr_assign rfl rfl) ?_
  refine VL.nil ?_
  refine VE.then_wp ?_
  refine V.seq ?_
  refine V.seq ?_
  refine V.region ?_
  refine VL.r (.inl rfl) rfl (by decide) (yr_assign (u := .int .i64 0) rfl rfl) ?_
  refine VL.nil ?_
  refine VE.then_wp ?_
  refine V.block ?_
  refine V.loopc (G := Nat) [(0, _), (1, _), (4, _), (5, _)] (fun (k : Nat) => k ≤ 3) (fun (k : Nat) => [⟨some ⟨b7, 0, none⟩, fl (rv bs k), 3, 25⟩, ⟨some ⟨b4, 0, none⟩, [.float .f32 0, .float .f32 0, .float .f32 0], 3, 32⟩]) (fun (k : Nat) => [(6, .int .i64 (k : Int))]) (fun (k : Nat) => 3 - k) 0 (.cons rfl (.cons rfl (.cons rfl (.cons rfl .nil)))) (.cons rfl .nil) ?_ ?_ ?_
  · exact (fun w hw => hw.pick (by apply Pick.cons1; (· repeat (first | exact Rem.here | exact Rem.all | exact Rem.hereS | apply Rem.there | apply Rem.thereS)); apply Pick.cons1; (· repeat (first | exact Rem.here | exact Rem.all | exact Rem.hereS | apply Rem.there | apply Rem.thereS)); exact Pick.nil))
  · exact (Nat.zero_le _)
  rintro k hk9
  show V _ _ _ [⟨some ⟨b7, 0, none⟩, fl (rv bs k), 3, 25⟩, ⟨some ⟨b4, 0, none⟩, [.float .f32 0, .float .f32 0, .float .f32 0], 3, 32⟩] ([(6, .int .i64 (k : Int))] ++ [(0, _), (1, _), (4, _), (5, _)]) _ _
  have hk : k ≤ 3 := hk9
  refine V.seq ?_
  refine V.seq ?_
  refine V.region ?_
  refine VL.r (.inl rfl) rfl (by decide) (yr_move rfl rfl) ?_
  refine VL.r (.inl rfl) rfl (by decide) (yr_icmp rfl (.inr (.inr (.inl rfl))) rfl rfl) ?_
  refine VL.nil ?_
  refine VE.then_wp ?_
  refine V.cond rfl (fun h1 => ?_) (fun h1 => ?_)
  · skip
    replace h1 := ic_lss h1
    refine V.skip ?_
    refine VE.then_wp ?_
    refine V.seq ?_
    refine V.block ?_
    refine V.seq ?_
    refine V.region ?_
    refine VL.r (.inl rfl) rfl (by decide) (yr_move rfl rfl) ?_
    refine VL.r (.inl rfl) rfl (by decide) (yr_move rfl rfl) ?_
    refine VL.r (.inl rfl) rfl (by decide) (yr_int rfl rfl rfl (.inl ⟨rfl, wrap_in (by omega)⟩)) ?_
    refine VL.r (.inl rfl) rfl (by decide) (yr_move rfl rfl) ?_
    refine VL.r (.inl rfl) rfl (by decide) (yr_len rfl Try.underlying22 rfl) ?_
    refine VL.r (.inl rfl) rfl (by decide) (yr_icmp rfl (.inr (.inr (.inl rfl))) rfl rfl) ?_
    refine VL.nil ?_
    refine VE.then_wp ?_
    refine V.cond rfl (fun h2 => ?_) (fun h2 => ?_)
    · skip
      replace h2 := ic_lss h2
      have hbn := byte_get hb (show k < bs.length by omega)
      refine V.region ?_
      refine VL.r (.inl rfl) rfl (by decide) (yr_move rfl rfl) ?_
      refine VL.r (.inl rfl) rfl (by decide) (yr_move rfl rfl) ?_
      refine VL.r (.inl rfl) rfl (by decide) (yr_move rfl rfl) ?_
      refine VL.r (.inl rfl) rfl (by decide) (yr_move rfl rfl) ?_
      refine VL.r (.inl rfl) rfl (by decide) (yr_move rfl rfl) ?_
      refine VL.r (.inl rfl) rfl (by decide) (yr_int rfl rfl rfl (.inl ⟨rfl, wrap_in (by omega)⟩)) ?_
      refine VL.q (.inl rfl) rfl (by decide) (yq_idx (k := (0 + k)) rfl Try.underlying22 sz5_Rw8 rfl rfl (by first | exact Sees.root (by assumption) | exact Sees.own (by repeat (first | exact List.mem_cons_self | exact List.mem_append_left _ (by assumption) | apply List.mem_cons_of_mem | apply List.mem_append_right)) | exact Sees.root (hR _ (by omega)) | exact Sees.own (RowsIn.mem (by repeat (first | exact RowsIn.here | exact RowsIn.last | apply RowsIn.there | apply RowsIn.thereS)) _ (by omega)) | exact Sees.own (WRowsIn.mem (by repeat (first | exact WRowsIn.here | exact WRowsIn.last | apply WRowsIn.there | apply WRowsIn.thereS)) _ (by omega))) (by first | rfl | omega | (push_cast; rfl) | (push_cast; omega) | exact tmod_nat _ _) (by first | exact bl_length _ | (rw [fl_length]; exact (rv_ok bs _).1)) (by first | omega | (rw [(rv_ok bs _).1]; omega))) ?_
      refine VL.q (.inl rfl) rfl (by decide) (yq_load (u := .int .u8 (bs.getD k 0)) rfl fb5_Rw8 rfl (by first | exact Sees.root (by assumption) | exact Sees.own (by repeat (first | exact List.mem_cons_self | exact List.mem_append_left _ (by assumption) | apply List.mem_cons_of_mem | apply List.mem_append_right)) | exact Sees.root (hR _ (by omega)) | exact Sees.own (RowsIn.mem (by repeat (first | exact RowsIn.here | exact RowsIn.last | apply RowsIn.there | apply RowsIn.thereS)) _ (by omega)) | exact Sees.own (WRowsIn.mem (by repeat (first | exact WRowsIn.here | exact WRowsIn.last | apply WRowsIn.there | apply WRowsIn.thereS)) _ (by omega))) (by rw [Nat.zero_add]; exact bl_get (by omega))) ?_
      refine VL.r (.inl rfl) rfl (by decide) (yr_intConv (r := bs.getD k 0) rfl Try.underlying5 Try.underlying2 rfl (wrap_in (by omega))) ?_
      refine VL.r (.inl rfl) rfl (by decide) (yr_remN (bs.getD k 0).toNat 17 rfl rfl rfl (by rw [Int.toNat_of_nonneg hbn.1]) rfl (by omega)) ?_
      refine VL.r (.inl rfl) rfl (by decide) (yr_int (r := (((bs.getD k 0).toNat % 17 : Nat) : Int) - 8) rfl rfl rfl (.inr (.inl ⟨rfl, wrap_in (by (try dsimp only); omega)⟩))) ?_
      refine VL.r (.inl rfl) rfl (by decide) (yr_ofInt rfl Try.underlying2 Try.underlying25 rfl) ?_
      refine VL.r (.inl rfl) rfl (by decide) (show YR _ _ _ (.float .f32 (qw ((bs.getD k 0).toNat % 17))) from (by unfold qw; exact yr_float rfl (.inr (.inr (.inr rfl))) rfl rfl)) ?_
      refine VL.q (.inl rfl) rfl (by decide) (yq_idx (k := k) rfl Try.underlying46 sz25_Rw8 rfl rfl (by first | exact Sees.root (by assumption) | exact Sees.own (by repeat (first | exact List.mem_cons_self | exact List.mem_append_left _ (by assumption) | apply List.mem_cons_of_mem | apply List.mem_append_right)) | exact Sees.root (hR _ (by omega)) | exact Sees.own (RowsIn.mem (by repeat (first | exact RowsIn.here | exact RowsIn.last | apply RowsIn.there | apply RowsIn.thereS)) _ (by omega)) | exact Sees.own (WRowsIn.mem (by repeat (first | exact WRowsIn.here | exact WRowsIn.last | apply WRowsIn.there | apply WRowsIn.thereS)) _ (by omega))) (by first | rfl | omega | (push_cast; rfl) | (push_cast; omega) | exact tmod_nat _ _) (by first | exact bl_length _ | (rw [fl_length]; exact (rv_ok bs _).1)) (by first | omega | (rw [(rv_ok bs _).1]; omega))) ?_
      refine VL.s (.inl rfl) rfl (yc_store rfl sz25_Rw8 rfl rfl (by repeat (first | exact UpdF.here | apply UpdF.there | apply UpdF.thereS)) (.inl ⟨rfl, rfl⟩) rfl (by rw [fl_length, (rv_ok bs k).1]; omega) (by decide) (fl_set _ _ _)) ?_
      rintro ⟨⟩
      refine VL.nil ?_
      refine VE.block_normal ?_
      refine VE.then_wp ?_
      refine V.region ?_
      refine VL.r (.inl rfl) rfl (by decide) (yr_move rfl rfl) ?_
      refine VL.r (.inl rfl) rfl (by decide) (yr_int rfl rfl rfl (.inl ⟨rfl, wrap_in (by omega)⟩)) ?_
      refine VL.r (.inl rfl) rfl (by decide) (yr_assign rfl rfl) ?_
      refine VL.nil ?_
      refine VE.round (k + 1) ?_ ?_ ?_ ?_ ?_
      · exact (.cons rfl .nil)
      · exact (.cons rfl (.cons rfl (.cons rfl (.cons rfl .nil))))
      · exact (fun w hw => by (try dsimp only); first | (rw [rv_t (by omega)]; exact hw.pick (by apply Pick.cons1; (· repeat (first | exact Rem.here | exact Rem.all | exact Rem.hereS | apply Rem.there | apply Rem.thereS)); apply Pick.cons1; (· repeat (first | exact Rem.here | exact Rem.all | exact Rem.hereS | apply Rem.there | apply Rem.thereS)); exact Pick.nil)) | (rw [rv_f (by omega)]; exact hw.pick (by apply Pick.cons1; (· repeat (first | exact Rem.here | exact Rem.all | exact Rem.hereS | apply Rem.there | apply Rem.thereS)); apply Pick.cons1; (· repeat (first | exact Rem.here | exact Rem.all | exact Rem.hereS | apply Rem.there | apply Rem.thereS)); exact Pick.nil)))
      · (try dsimp only); omega
      · (try dsimp only); omega
    · skip
      replace h2 := ic_lss' h2
      refine V.skip ?_
      refine VE.block_normal ?_
      refine VE.then_wp ?_
      refine V.region ?_
      refine VL.r (.inl rfl) rfl (by decide) (yr_move rfl rfl) ?_
      refine VL.r (.inl rfl) rfl (by decide) (yr_int rfl rfl rfl (.inl ⟨rfl, wrap_in (by omega)⟩)) ?_
      refine VL.r (.inl rfl) rfl (by decide) (yr_assign rfl rfl) ?_
      refine VL.nil ?_
      refine VE.round (k + 1) ?_ ?_ ?_ ?_ ?_
      · exact (.cons rfl .nil)
      · exact (.cons rfl (.cons rfl (.cons rfl (.cons rfl .nil))))
      · exact (fun w hw => by (try dsimp only); first | (rw [rv_t (by omega)]; exact hw.pick (by apply Pick.cons1; (· repeat (first | exact Rem.here | exact Rem.all | exact Rem.hereS | apply Rem.there | apply Rem.thereS)); apply Pick.cons1; (· repeat (first | exact Rem.here | exact Rem.all | exact Rem.hereS | apply Rem.there | apply Rem.thereS)); exact Pick.nil)) | (rw [rv_f (by omega)]; exact hw.pick (by apply Pick.cons1; (· repeat (first | exact Rem.here | exact Rem.all | exact Rem.hereS | apply Rem.there | apply Rem.thereS)); apply Pick.cons1; (· repeat (first | exact Rem.here | exact Rem.all | exact Rem.hereS | apply Rem.there | apply Rem.thereS)); exact Pick.nil)))
      · (try dsimp only); omega
      · (try dsimp only); omega
  · skip
    replace h1 := ic_lss' h1
    refine V.exit ?_
    refine VE.then_exit ?_
    refine VE.then_exit ?_
    refine VE.block_here ?_
    refine VE.then_wp ?_
    refine V.seq ?_
    refine V.draw [(0, 0), (1, 0), (2, 0), (3, 0), (4, 0), (5, 0), (6, 0), (7, 0), (8, 0), (9, 0), (10, 3)] mixed_Rw8 (by kernel_rfl) (by intro j o hj; simp at hj) ?_
    refine SW.r rfl (.inl rfl) rfl (by decide) (yr_move rfl rfl) ?_
    refine SW.q rfl (.inl rfl) rfl (by decide) (yq_idx (k := 0) rfl Try.underlying46 sz25_Rw8 rfl rfl (by first | exact Sees.root (by assumption) | exact Sees.own (by repeat (first | exact List.mem_cons_self | exact List.mem_append_left _ (by assumption) | apply List.mem_cons_of_mem | apply List.mem_append_right)) | exact Sees.root (hR _ (by omega)) | exact Sees.own (RowsIn.mem (by repeat (first | exact RowsIn.here | exact RowsIn.last | apply RowsIn.there | apply RowsIn.thereS)) _ (by omega)) | exact Sees.own (WRowsIn.mem (by repeat (first | exact WRowsIn.here | exact WRowsIn.last | apply WRowsIn.there | apply WRowsIn.thereS)) _ (by omega))) (by first | rfl | omega | (push_cast; rfl) | (push_cast; omega) | exact tmod_nat _ _) (by first | exact bl_length _ | (rw [fl_length]; exact (rv_ok bs _).1)) (by first | omega | (rw [(rv_ok bs _).1]; omega))) ?_
    refine SW.q rfl (.inl rfl) rfl (by decide) (yq_loadF rfl fb25_Rw8 rfl (by first | exact Sees.root (by assumption) | exact Sees.own (by repeat (first | exact List.mem_cons_self | exact List.mem_append_left _ (by assumption) | apply List.mem_cons_of_mem | apply List.mem_append_right)) | exact Sees.root (hR _ (by omega)) | exact Sees.own (RowsIn.mem (by repeat (first | exact RowsIn.here | exact RowsIn.last | apply RowsIn.there | apply RowsIn.thereS)) _ (by omega)) | exact Sees.own (WRowsIn.mem (by repeat (first | exact WRowsIn.here | exact WRowsIn.last | apply WRowsIn.there | apply WRowsIn.thereS)) _ (by omega))) (by first | omega | (rw [(rv_ok bs _).1]; omega))) ?_
    refine SW.r rfl (.inl rfl) rfl (by decide) (yr_move rfl rfl) ?_
    refine SW.q rfl (.inl rfl) rfl (by decide) (yq_idx (k := 1) rfl Try.underlying46 sz25_Rw8 rfl rfl (by first | exact Sees.root (by assumption) | exact Sees.own (by repeat (first | exact List.mem_cons_self | exact List.mem_append_left _ (by assumption) | apply List.mem_cons_of_mem | apply List.mem_append_right)) | exact Sees.root (hR _ (by omega)) | exact Sees.own (RowsIn.mem (by repeat (first | exact RowsIn.here | exact RowsIn.last | apply RowsIn.there | apply RowsIn.thereS)) _ (by omega)) | exact Sees.own (WRowsIn.mem (by repeat (first | exact WRowsIn.here | exact WRowsIn.last | apply WRowsIn.there | apply WRowsIn.thereS)) _ (by omega))) (by first | rfl | omega | (push_cast; rfl) | (push_cast; omega) | exact tmod_nat _ _) (by first | exact bl_length _ | (rw [fl_length]; exact (rv_ok bs _).1)) (by first | omega | (rw [(rv_ok bs _).1]; omega))) ?_
    refine SW.q rfl (.inl rfl) rfl (by decide) (yq_loadF rfl fb25_Rw8 rfl (by first | exact Sees.root (by assumption) | exact Sees.own (by repeat (first | exact List.mem_cons_self | exact List.mem_append_left _ (by assumption) | apply List.mem_cons_of_mem | apply List.mem_append_right)) | exact Sees.root (hR _ (by omega)) | exact Sees.own (RowsIn.mem (by repeat (first | exact RowsIn.here | exact RowsIn.last | apply RowsIn.there | apply RowsIn.thereS)) _ (by omega)) | exact Sees.own (WRowsIn.mem (by repeat (first | exact WRowsIn.here | exact WRowsIn.last | apply WRowsIn.there | apply WRowsIn.thereS)) _ (by omega))) (by first | omega | (rw [(rv_ok bs _).1]; omega))) ?_
    refine SW.r rfl (.inl rfl) rfl (by decide) (yr_move rfl rfl) ?_
    refine SW.q rfl (.inl rfl) rfl (by decide) (yq_idx (k := 2) rfl Try.underlying46 sz25_Rw8 rfl rfl (by first | exact Sees.root (by assumption) | exact Sees.own (by repeat (first | exact List.mem_cons_self | exact List.mem_append_left _ (by assumption) | apply List.mem_cons_of_mem | apply List.mem_append_right)) | exact Sees.root (hR _ (by omega)) | exact Sees.own (RowsIn.mem (by repeat (first | exact RowsIn.here | exact RowsIn.last | apply RowsIn.there | apply RowsIn.thereS)) _ (by omega)) | exact Sees.own (WRowsIn.mem (by repeat (first | exact WRowsIn.here | exact WRowsIn.last | apply WRowsIn.there | apply WRowsIn.thereS)) _ (by omega))) (by first | rfl | omega | (push_cast; rfl) | (push_cast; omega) | exact tmod_nat _ _) (by first | exact bl_length _ | (rw [fl_length]; exact (rv_ok bs _).1)) (by first | omega | (rw [(rv_ok bs _).1]; omega))) ?_
    refine SW.q rfl (.inl rfl) rfl (by decide) (yq_loadF rfl fb25_Rw8 rfl (by first | exact Sees.root (by assumption) | exact Sees.own (by repeat (first | exact List.mem_cons_self | exact List.mem_append_left _ (by assumption) | apply List.mem_cons_of_mem | apply List.mem_append_right)) | exact Sees.root (hR _ (by omega)) | exact Sees.own (RowsIn.mem (by repeat (first | exact RowsIn.here | exact RowsIn.last | apply RowsIn.there | apply RowsIn.thereS)) _ (by omega)) | exact Sees.own (WRowsIn.mem (by repeat (first | exact WRowsIn.here | exact WRowsIn.last | apply WRowsIn.there | apply WRowsIn.thereS)) _ (by omega))) (by first | omega | (rw [(rv_ok bs _).1]; omega))) ?_
    refine SW.r rfl (.inl rfl) rfl (by decide) (yr_build rfl lay32_Rw8 rfl (.cons rfl (.cons rfl (.cons rfl .nil))) (by first | (simp; done) | (simp [vv]; done) | (simp [cn, cn1, cn0]; done)) rfl) ?_
    refine SW.s rfl (.inl rfl) rfl (yc_store rfl sz32_Rw8 rfl rfl (by repeat (first | exact UpdF.here | apply UpdF.there | apply UpdF.thereS)) (.inr ⟨rfl, rfl⟩) rfl (by first | exact Nat.le_of_ble_eq_true rfl | simp) (by decide) rfl) ?_
    rintro ⟨⟩
    refine SW.done ?_
    refine VE.then_wp ?_
    refine V.ret ?_
    refine retC rfl (rv_cellS rfl Try.underlying32 sz32_Rw8 (by first | exact Sees.root (by assumption) | exact Sees.own (by repeat (first | exact List.mem_cons_self | exact List.mem_append_left _ (by assumption) | apply List.mem_cons_of_mem | apply List.mem_append_right)) | exact Sees.root (hR _ (by omega)) | exact Sees.own (RowsIn.mem (by repeat (first | exact RowsIn.here | exact RowsIn.last | apply RowsIn.there | apply RowsIn.thereS)) _ (by omega)) | exact Sees.own (WRowsIn.mem (by repeat (first | exact WRowsIn.here | exact WRowsIn.last | apply WRowsIn.there | apply WRowsIn.thereS)) _ (by omega))) rfl rfl rfl) (by nofun) (fun w1 hw => ?_)
    obtain rfl : k = 3 := by omega
    obtain ⟨x0, y0, e0⟩ := rv_at bs 3 (i := 0) (by decide)
    obtain ⟨x1, y1, e1⟩ := rv_at bs 3 (i := 1) (by decide)
    obtain ⟨x2, y2, e2⟩ := rv_at bs 3 (i := 2) (by decide)
    exact ⟨⟨(x0, x1, x2), y0, y1, y2⟩, by rw [← e0, ← e1, ← e2]; rfl, hw.below, (fun _ h => by cases h), List.Pairwise.nil⟩

end Go.Proofs.Ytfeciemlhiclbaa


namespace Go.Proofs.Ytfeciemlhiclbaa
open Go.RowKit

set_option maxRecDepth 20000
theorem fx_bulk : wbulk (rW (i8L 8)) ≤ 1050000 := by
  show 1 + ((rW (i8L 8)).take 1 |>.map fun w => w.1.length).sum ≤ 1050000
  have : ((rW (i8L 8)).take 1 |>.map fun w => w.1.length).sum = 8 := by
    simp [rW, i8L_length]
  omega
/-- What the mesh holds, its greatest miss, its source. -/
def fxV (a b c : Nat) : List V3 := fiK (rW (i8L 8)) (frm a b c) 1040187392 3 3 27
def fxW (a b c : Nat) : Nat := wbU (rW (i8L 8)) (fxV a b c) (frm a b c) 1040187392 3 3 3 27
def fxS (a b c : Nat) : Nat := srcAt (fxV a b c) 3 3 (srcTw 1040187392) 1 1 1
def fxP (a b c i j k : Nat) : V3 := place3 (frm a b c) 1040187392 (FloatKind.f32.nearest (i : Int)) (FloatKind.f32.nearest (j : Int)) (FloatKind.f32.nearest (k : Int))
theorem fx_get {a i : Nat} (h : i = 0) : List.getD [a] i 0 = a := by subst h; rfl
theorem fxV_def {a b c : Nat} : fiK (rW (i8L 8)) (qw a, qw b, lz9 c) 1040187392 (Int.toNat 3) (Int.toNat 3) (Int.toNat 3 * Int.toNat 3 * Int.toNat 3) = fxV a b c := rfl
theorem fxP_def {a b c i j k : Nat} : place3 (qw a, qw b, lz9 c) 1040187392 (FloatKind.f32.nearest (i : Int)) (FloatKind.f32.nearest (j : Int)) (FloatKind.f32.nearest (k : Int)) = fxP a b c i j k := rfl
theorem fxV_length {a b c : Nat} : (fxV a b c).length = 27 := fiK_length
theorem fx_src {vs : List V3} : srcL 1040187392 3 3 3 vs = [srcAt vs 3 3 (srcTw 1040187392) 1 1 1] := rfl
attribute [local irreducible] D9 D7 UU WW W9 segF fop FX FY FZ fieldI
section
variable {a b c i j k : Nat}
theorem fx_fin (ha : a < 17) (hb : b < 17) (hc : c < 17) : fin3 (frm a b c) = true := by
  have h := fill_ok i8_ring i8_wires ha hb hc
  unfold fiOk at h
  simp only [Bool.and_eq_true] at h
  exact h.1.1.1.2
theorem fx_fill (ha : a < 17) (hb : b < 17) (hc : c < 17) : fiOk (rW (i8L 8)) (frm a b c) 1040187392 3 3 3 = true := fill_ok i8_ring i8_wires ha hb hc
theorem fx_mesh (ha : a < 17) (hb : b < 17) (hc : c < 17) : meshOk (frm a b c) 1040187392 3 3 3 27 = true := by
  unfold meshOk
  rw [fx_fin ha hb hc]
  decide +kernel
theorem fx_val (hi : i < 3) (hj : j < 3) (hk : k < 3) : mval (fxV a b c) 3 3 i j k = fieldI (rW (i8L 8)) (fxP a b c i j k) := by
  have hn : nd 3 3 i j k < 27 := by unfold nd; omega
  unfold mval fxP
  rw [← plc_nd (f := frm a b c) (st := 1040187392) (W := 3) (H := 3) (z := k) hi hj]
  simp [fxV, fiK, List.getD, hn]
theorem fx_pfin (ha : a < 17) (hb : b < 17) (hc : c < 17) (hi : i < 3) (hj : j < 3) (hk : k < 3) : fin3 (fxP a b c i j k) = true := (lat_node ha hb hc hi hj hk).fin3
theorem fx_ffin (ha : a < 17) (hb : b < 17) (hc : c < 17) (hi : i < 3) (hj : j < 3) (hk : k < 3) : fin3 (fieldI (rW (i8L 8)) (fxP a b c i j k)) = true := nr3_fin (ring8_field i8_ring (lat_node ha hb hc hi hj hk)).1
theorem fx_nan (ha : a < 17) (hb : b < 17) (hc : c < 17) (hi : i < 3) (hj : j < 3) (hk : k < 3) : fnan .f32 (fieldI (rW (i8L 8)) (fxP a b c i j k)).1 = false ∧ fnan .f32 (fieldI (rW (i8L 8)) (fxP a b c i j k)).2.1 = false ∧ fnan .f32 (fieldI (rW (i8L 8)) (fxP a b c i j k)).2.2 = false := by
  have h := fx_ffin ha hb hc hi hj hk
  unfold fin3 at h
  simp only [Bool.and_eq_true] at h
  exact ⟨fin_nan h.1.1, fin_nan h.1.2, fin_nan h.2⟩
theorem fx_wb (ha : a < 17) (hb : b < 17) (hc : c < 17) : (wbOk (rW (i8L 8)) (fxV a b c) (frm a b c) 1040187392 3 3 3 = true ∧ wbD (rW (i8L 8)) (fxV a b c) (frm a b c) 1040187392 3 3 3 = fxW a b c) ∧ fcmp .geq .f32 (fxW a b c) 0 = true ∧ fcmp .lss .f64 (up (fxW a b c)) 4587366580439587226 = true := by
  obtain ⟨w, w1, w2, w3⟩ := wb_small i8_ring ha hb hc 27 (Nat.le_refl _)
  have h9 : wbOk (rW (i8L 8)) (fxV a b c) (frm a b c) 1040187392 3 3 3 = true := wb_yes i8_wires (by rw [fxV_length]; exact fx_mesh ha hb hc) (qv_fin w1)
  exact ⟨⟨h9, wbD_yes h9⟩, geq_0 w1 w2, up_lss w1 w3⟩
theorem fx_sr (ha : a < 17) (hb : b < 17) (hc : c < 17) : (srcOk (frm a b c) 1040187392 3 3 3 (fxV a b c) = true ∧ srcD (frm a b c) 1040187392 3 3 3 (fxV a b c) = [fxS a b c]) ∧ fnan .f64 (fop .sub .f64 (up (fxS a b c)) 0) = false ∧ fnan .f64 (fop .sub .f64 0 (up (fxS a b c))) = false ∧ fcmp .lss .f64 (gap64 (up (fxS a b c)) 0) 4587366580439587226 = true := by
  obtain ⟨z, z1, z2⟩ := src_small i8_ring ha hb hc
  have hf : (srcL 1040187392 3 3 3 (fxV a b c)).all fin = true := by
    rw [fx_src]
    simp only [List.all_cons, List.all_nil, Bool.and_true]
    exact qv_fin z1
  have h9 : srcOk (frm a b c) 1040187392 3 3 3 (fxV a b c) = true := srcOk_yes (by rw [fxV_length]; exact fx_mesh ha hb hc) hf
  exact ⟨⟨h9, by rw [srcD_yes h9, fx_src]; rfl⟩, gap_05 z1 z2⟩
end
theorem wrw_one {w : World} {a : Option Addr} {c : Nat} {L : List V3} (h : Cl w a (vl L)) : WRws w (fun _ => (a, c)) (rW L) := fun i hi => by
  have : i = 0 := by
    have : i < 1 := hi
    omega
  subst this
  exact h
theorem whd_i8 {a : Option Addr} {c : Nat} : whd (fun _ => (a, c)) (rW (i8L 8)) = [.slice a 8 c, .bool true, .float .f32 1065353216] := rfl
end Go.Proofs.Ytfeciemlhiclbaa


namespace Go.Proofs.Ytfeciemlhiclbaa
open Go.RowKit

/-! ### what the tables say -/
section
variable {a b v : V3} {i j k x y z W H D n : Nat} {vs : List V3}
/-! ### cells -/
/-! ### nodes -/
/-! ### places -/
/-! ### layers, halves -/
end
/-! ### vectors that are compared -/
def VEqB (P : Program) (t : TypeId) : Bool := match (P.fieldsOf t).toList with
  | [f1, f2, f3] => f1.name != "_" && f2.name != "_" && f3.name != "_" && f1.offset == 0 && f2.offset == 1 && f3.offset == 2 && f1.type == f2.type && f1.type == f3.type && (match P.underlying f1.type with | some (.float .f32) => true | _ => false) && !P.stoodInHeld t && !P.eqGuardType P.depth t
  | _ => false
section
variable {P : Program} {n : Nat} {w0 : World} {O : List Ent} {E : Env} {o : Oper}
theorem veqB_is {t : TypeId} (h : VEqB P t = true) : ∃ f1 f2 f3, (P.fieldsOf t).toList = [f1, f2, f3] ∧ (f1.name ≠ "_" ∧ f2.name ≠ "_" ∧ f3.name ≠ "_") ∧ (f1.offset = 0 ∧ f2.offset = 1 ∧ f3.offset = 2) ∧ f2.type = f1.type ∧ f3.type = f1.type ∧ P.underlying f1.type = some (.float .f32) ∧ P.stoodInHeld t = false ∧ P.eqGuardType P.depth t = false := by
  unfold VEqB at h
  split at h
  · rename_i f1 f2 f3 heq
    simp only [Bool.and_eq_true, bne_iff_ne, beq_iff_eq, Bool.not_eq_true'] at h
    obtain ⟨⟨⟨⟨⟨⟨⟨⟨⟨⟨h1, h2⟩, h3⟩, h4⟩, h5⟩, h6⟩, h7⟩, h8⟩, h9⟩, h10⟩, h11⟩ := h
    refine ⟨f1, f2, f3, heq, ⟨h1, h2, h3⟩, ⟨h4, h5, h6⟩, h7.symm, h8.symm, ?_, h10, h11⟩
    split at h9
    · assumption
    · cases h9
  · cases h
theorem run_isAgg_f {t : TypeId} (h : P.underlying t = some (.float .f32)) (w : World) : (isAgg t).run P w = .ok false w := run_isAgg_flat (by unfold flatB; rw [h]) w
theorem run_eqF {t : TypeId} (h : P.underlying t = some (.float .f32)) (d a b : Nat) (w : World) : (Op.equalIn (d + 1) t (.float .f32 a) (.float .f32 b)).run P w = .ok (Op.floatEq .f32 a b) w := by
  simp [Op.equalIn, run_underlying h]
theorem yr_veq {op : BinOp} {t ty : TypeId} {x y : Operand} {a b : V3} (ho : o.op = .binOp op t x y ty) (hop : op = .eql ∨ op = .neq) (ht : P.underlying t = some (.struct (P.fieldsOf t))) (hv : VEqB P t = true)
    (hx : E.opd x = some (vv a)) (hy : E.opd y = some (vv b)) (hab : a = b) (h1 : fnan .f32 a.1 = false) (h2 : fnan .f32 a.2.1 = false) (h3 : fnan .f32 a.2.2 = false) : YR P E o (.bool (match op with | .eql => true | _ => false)) := yr_of fun ρ w hE => by
  subst hab
  obtain ⟨f1, f2, f3, hfs, ⟨n1, n2, n3⟩, ⟨o1, o2, o3⟩, t2, t3, tu, hst, hg⟩ := veqB_is hv
  obtain ⟨xs, e1, e2⟩ := cn_agg (hE.get (x := x) (by simp [ho, Op.operands]) hx)
  obtain ⟨ys, g1, g2⟩ := cn_agg (hE.get (x := y) (by simp [ho, Op.operands]) hy)
  have key : ∀ {zs : Array Value}, zs.map cn0 = #[.float .f32 a.1, .float .f32 a.2.1, .float .f32 a.2.2] → ∃ b1 b2 b3, zs = #[.float .f32 b1, .float .f32 b2, .float .f32 b3] ∧ cb .f32 b1 = a.1 ∧ cb .f32 b2 = a.2.1 ∧ cb .f32 b3 = a.2.2 := by
    intro zs hz
    have hl := congrArg Array.toList hz
    rw [Array.toList_map] at hl
    have ez : zs = zs.toList.toArray := rfl
    rw [ez]
    generalize zs.toList = l at *
    match l, hl with
    | [z1, z2, z3], hl =>
      simp only [List.map_cons, List.map_nil, List.cons.injEq, and_true] at hl
      obtain ⟨q1, q2, q3⟩ := hl
      have c0 : ∀ {v : Value} {r : Nat}, cn0 v = .float .f32 r → ∃ b, v = .float .f32 b ∧ cb .f32 b = r := by
        intro v r hv
        cases v <;> simp [cn0] at hv ⊢
        obtain ⟨rfl, h⟩ := hv; exact ⟨_, ⟨rfl, rfl⟩, h⟩
      obtain ⟨b1, rfl, r1⟩ := c0 q1
      obtain ⟨b2, rfl, r2⟩ := c0 q2
      obtain ⟨b3, rfl, r3⟩ := c0 q3
      exact ⟨b1, b2, b3, rfl, r1, r2, r3⟩
    | [], hl => simp at hl
    | [_], hl => simp at hl
    | [_, _], hl => simp at hl
    | _ :: _ :: _ :: _ :: _, hl => simp at hl
  obtain ⟨x1, x2, x3, rfl, c1, c2, c3⟩ := key e2
  obtain ⟨y1, y2, y3, rfl, d1, d2, d3⟩ := key g2
  have feq : ∀ {p q r : Nat}, cb .f32 p = r → cb .f32 q = r → fnan .f32 r = false → Op.floatEq .f32 p q = true := by
    intro p q r hp hq hr
    have h9 : fcmp .eql .f32 (cb .f32 p) (cb .f32 q) = true := by
      rw [hp, hq]
      show (FloatKind.f32.format.order r r == some .eq) = true
      rw [order_self hr]; rfl
    rw [fcmp_cb] at h9
    exact h9
  have heq : (Op.equalIn 10000 t (.agg #[.float .f32 x1, .float .f32 x2, .float .f32 x3]) (.agg #[.float .f32 y1, .float .f32 y2, .float .f32 y3])).run P w = .ok true w := by
    rw [run_equalIn_agg w 9999 t _ _ ht hst, hfs]
    simp [Op.eqFields, n1, n2, n3, o1, o2, o3, t2, t3, part, run_isAgg_f tu, run_eqF tu 9998, feq c1 d1 h1, feq c2 d2 h2, feq c3 d3 h3]
  rcases hop with rfl | rfl
  · exact ⟨.bool true, by simp [execOp, ho, e1, g1, run_eqGuard_agg w _ t x y _ _ hg, run_eql_struct, heq], rfl⟩
  · exact ⟨.bool false, by simp [execOp, ho, e1, g1, run_eqGuard_agg w _ t x y _ _ hg, run_neq_struct, heq], rfl⟩
end
/-! ### parts of rows of vectors -/
/-! ### lines along any field -/
section
variable {F : V3 → V3 × Bool} {p : V3} {st : Nat}
end
section
variable {vs : List V3} {f p : V3} {st W H D : Nat}
end
/-! ### what the law asks -/
structure NmF (k W H D : Nat) (vs : List V3) : Prop where
  hv : meshOk (hqw k, 0, 0) 1056964608 (W : Int) (H : Int) (D : Int) vs.length = true
  hN : vs.length = W * H * D
  hbd : W * H * D ≤ 48
  hk : k < 9
  hW : 1 ≤ W ∧ W ≤ 4
  hH : 1 ≤ H ∧ H ≤ 4
  hD : 1 ≤ D ∧ D ≤ 3
  hq : ∀ v ∈ vs, Q3 v
  hf : Can3 (hqw k, 0, 0)
  hnf : fnan .f32 (hqw k) = false ∧ fnan .f32 0 = false
  hadd : (vs.map fun v => scale3 v 1073741824) = vs.map fun v => add3 v v
  hX : Cans3 (vs.map fun v => add3 v v)
section
variable {k W H D x y z : Nat} {vs : List V3}
theorem NmF.small (h : NmF k W H D vs) : vs.length ≤ 1050000 := by have h1 := h.hN; have h2 := h.hbd; omega
end
end Go.Proofs.Ytfeciemlhiclbaa


namespace Go.Proofs.Ytfeciemlhiclbaa
open Go.RowKit
set_option linter.unusedVariables false
set_option linter.unusedSimpArgs false
set_option maxRecDepth 20000

theorem known4_Rx8 : Known Try.prog 4 := Known.mk' Try.func4 (by kernel_rfl)
theorem known5_Rx8 : Known Try.prog 5 := Known.mk' Try.func5 (by kernel_rfl)
theorem zero27_Rx8 : (Try.prog.info? 27).bind (·.zero) = some (Value.agg #[Value.slice none 0 0, Value.bool false, Value.float .f32 0]) := by kernel_rfl
theorem sz27_Rx8 : (Try.prog.info? 27).map (·.size) = some 3 := by kernel_rfl
theorem elt27_Rx8 : Elt Try.prog 27 [Value.slice none 0 0, Value.bool false, Value.float .f32 0] 32 := Elt.mk' (by kernel_rfl) (by decide)
theorem known6_Rx8 : Known Try.prog 6 := Known.mk' Try.func6 (by kernel_rfl)
theorem zero32_Rx8 : (Try.prog.info? 32).bind (·.zero) = some (Value.agg #[Value.float .f32 0, Value.float .f32 0, Value.float .f32 0]) := by kernel_rfl
theorem sz32_Rx8 : (Try.prog.info? 32).map (·.size) = some 3 := by kernel_rfl
theorem sz25_Rx8 : (Try.prog.info? 25).map (·.size) = some 1 := by kernel_rfl
theorem fb25_Rx8 : flatB Try.prog 25 = true := by kernel_rfl
theorem known7_Rx8 : Known Try.prog 7 := Known.mk' Try.func7 (by kernel_rfl)
theorem zero35_Rx8 : (Try.prog.info? 35).bind (·.zero) = some (Value.agg #[Value.float .f32 0, Value.float .f32 0, Value.float .f32 0, Value.float .f32 0, Value.int .i64 0, Value.int .i64 0, Value.int .i64 0, Value.slice none 0 0]) := by kernel_rfl
theorem sz35_Rx8 : (Try.prog.info? 35).map (·.size) = some 8 := by kernel_rfl
theorem known8_Rx8 : Known Try.prog 8 := Known.mk' Try.func8 (by kernel_rfl)
theorem sz24_Rx8 : (Try.prog.info? 24).map (·.size) = some 1 := by kernel_rfl
theorem fb24_Rx8 : flatB Try.prog 24 = true := by kernel_rfl
theorem known9_Rx8 : Known Try.prog 9 := Known.mk' Try.func9 (by kernel_rfl)
theorem known10_Rx8 : Known Try.prog 10 := Known.mk' Try.func10 (by kernel_rfl)
theorem known11_Rx8 : Known Try.prog 11 := Known.mk' Try.func11 (by kernel_rfl)
theorem known12_Rx8 : Known Try.prog 12 := Known.mk' Try.func12 (by kernel_rfl)
theorem known13_Rx8 : Known Try.prog 13 := Known.mk' Try.func13 (by kernel_rfl)
theorem veq32_Rx8 : VEqB Try.prog 32 = true := by kernel_rfl
theorem known14_Rx8 : Known Try.prog 14 := Known.mk' Try.func14 (by kernel_rfl)
attribute [local irreducible] fop fcmp fconv fneg fabs List.getD qw hqw lz9 fieldI fxV fxW fxS fxP

theorem c_fillE {w : World} {a : Option Addr} {c : Nat} {f : Nat → Option Addr × Nat} {x y z : Nat} (hA : Cl w a (whd f (rW (i8L 8)))) (hR : WRws w f (rW (i8L 8))) (ha : x < 17) (hb : y < 17) (hc : z < 17) : New Try.prog 7 [.slice a 1 c, vv (qw x, qw y, lz9 z), .float .f32 1040187392, .int .i64 3, .int .i64 3, .int .i64 3] w (fun p : Option Addr × Nat => .tuple #[.agg #[.float .f32 (qw x), .float .f32 (qw y), .float .f32 (lz9 z), .float .f32 1040187392, .int .i64 3, .int .i64 3, .int .i64 3, .slice p.1 27 p.2], .bool true]) (fun p => [⟨p.1, vl (fxV x y z), p.2 * 3, 32⟩]) := by
  have h := c_implFill (c := c) (f1 := qw x) (f2 := qw y) (f3 := lz9 z) (st := 1040187392) (wi := 3) (hi := 3) (de := 3) hA hR fx_bulk
  have e := fx_fill ha hb hc
  unfold frm at e
  rw [fiL_yes e, fiF_yes e, fiS_yes e, fiI_yes e, e, fiK_length, fxV_def] at h
  exact h
theorem c_meshE {w : World} {a : Option Addr} {c x y z : Nat} (ha : x < 17) (hb : y < 17) (hc : z < 17) : Pure Try.prog 8 [.agg #[.float .f32 (qw x), .float .f32 (qw y), .float .f32 (lz9 z), .float .f32 1040187392, .int .i64 3, .int .i64 3, .int .i64 3, .slice a 27 c]] w (.bool true) := by
  have h := c_implMesh (w := w) (f1 := qw x) (f2 := qw y) (f3 := lz9 z) (st := 1040187392) (wi := 3) (hi := 3) (de := 3) (a := a) (m := 27) (c := c)
  have e := fx_mesh ha hb hc
  unfold frm at e
  rw [e] at h
  exact h
theorem c_nodeFE {w : World} {a : Option Addr} {c x y z i j k : Nat} (hA : Cl w a (vl (fxV x y z))) (ha : x < 17) (hb : y < 17) (hc : z < 17) (hi : i < 3) (hj : j < 3) (hk : k < 3) : Pure Try.prog 10 [.agg #[.float .f32 (qw x), .float .f32 (qw y), .float .f32 (lz9 z), .float .f32 1040187392, .int .i64 3, .int .i64 3, .int .i64 3, .slice a 27 c], .int .i64 (i : Int), .int .i64 (j : Int), .int .i64 (k : Int)] w (.tuple #[vv (fxP x y z i j k), vv (fieldI (rW (i8L 8)) (fxP x y z i j k)), .bool true]) := by
  have h := c_nodeF (f1 := qw x) (f2 := qw y) (f3 := lz9 z) (st := 1040187392) (W := 3) (H := 3) (D := 3) (c := c) (x := i) (y := j) (z := k) hA (by rw [fxV_length]; exact fx_mesh ha hb hc) fxV_length (by decide) hi hj hk (by rw [fxP_def]; exact fx_pfin ha hb hc hi hj hk)
  rw [fx_val hi hj hk, fxV_length, fxP_def] at h
  exact h
theorem c_fldFE {w : World} {a : Option Addr} {c : Nat} {f : Nat → Option Addr × Nat} {x y z : Nat} {i j k : Nat} (hA : Cl w a (whd f (rW (i8L 8)))) (hR : WRws w f (rW (i8L 8))) (ha : x < 17) (hb : y < 17) (hc : z < 17) (hi : i < 3) (hj : j < 3) (hk : k < 3) : Pure Try.prog 11 [.slice a 1 c, vv (fxP x y z i j k)] w (.tuple #[vv (fieldI (rW (i8L 8)) (fxP x y z i j k)), .bool true]) :=
  c_fieldIE (c := c) (ws := rW (i8L 8)) (p1 := (fxP x y z i j k).1) (p2 := (fxP x y z i j k).2.1) (p3 := (fxP x y z i j k).2.2) hA hR fx_bulk i8_wires (fx_pfin ha hb hc hi hj hk) (fx_ffin ha hb hc hi hj hk)
theorem c_wbE {w : World} {a : Option Addr} {c : Nat} {f : Nat → Option Addr × Nat} {x y z : Nat} {d : Option Addr} {e : Nat} (hA : Cl w a (whd f (rW (i8L 8)))) (hR : WRws w f (rW (i8L 8))) (hV : Cl w d (vl (fxV x y z))) (ha : x < 17) (hb : y < 17) (hc : z < 17) : Pure Try.prog 12 [.slice a 1 c, .agg #[.float .f32 (qw x), .float .f32 (qw y), .float .f32 (lz9 z), .float .f32 1040187392, .int .i64 3, .int .i64 3, .int .i64 3, .slice d 27 e]] w (.tuple #[.float .f32 (fxW x y z), .bool true]) := by
  have h := c_implWb (c := c) (f1 := qw x) (f2 := qw y) (f3 := lz9 z) (st := 1040187392) (wi := 3) (hi := 3) (de := 3) (e := e) hA hR fx_bulk hV
  have g := (fx_wb ha hb hc).1
  unfold frm at g
  rw [g.1, g.2, fxV_length] at h
  exact h
theorem c_srcE {w : World} {a : Option Addr} {c x y z : Nat} (hA : Cl w a (vl (fxV x y z))) (ha : x < 17) (hb : y < 17) (hc : z < 17) : New Try.prog 13 [.agg #[.float .f32 (qw x), .float .f32 (qw y), .float .f32 (lz9 z), .float .f32 1040187392, .int .i64 3, .int .i64 3, .int .i64 3, .slice a 27 c]] w (fun p : Option Addr × Nat => .tuple #[.slice p.1 1 p.2, .bool true]) (fun p => [⟨p.1, fl [fxS x y z], p.2 * 1, 25⟩]) := by
  have h := c_implSrc (c := c) (f1 := qw x) (f2 := qw y) (f3 := lz9 z) (st := 1040187392) (wi := 3) (hi := 3) (de := 3) hA
  have g := (fx_sr ha hb hc).1
  unfold frm at g
  rw [g.1, g.2, fxV_length] at h
  exact h
theorem law_Filled {w : World} {a b : Option Addr} {c d : Nat} {bs cs : List Int} (hA : Cl w a (bl bs)) (hB : Cl w b (bl cs)) (hb : Bytes bs) (hcb : Bytes cs) : Pure Try.prog 3 [.slice a bs.length c, .slice b cs.length d] w (.bool true) := by
  refine Pure.enter Try.func3 rfl Try.ntmps3 (Nat.le_of_ble_eq_true rfl) ?_
  refine V.seq ?_
  refine V.region ?_
  refine VL.r (.inl rfl) rfl (by decide) (yr_assign (u := .bool false) rfl rfl) ?_
  refine VL.nil ?_
  refine VE.then_wp ?_
  refine V.seq ?_
  refine V.seq ?_
  refine V.region ?_
  refine VL.r (.inl rfl) rfl (by decide) (yr_move rfl rfl) ?_
  refine VL.r (.inl rfl) rfl (by decide) (yr_move rfl rfl) ?_
  refine VL.q (.inl rfl) rfl (by decide) (yq_callf rfl known4_Rx8 (.cons rfl (.cons rfl .nil)) (fun w hw => c_r8LongF)) ?_
  refine VL.nil ?_
  refine VE.then_wp ?_
  refine V.cond rfl (fun h1 => ?_) (fun h1 => ?_)
  · skip
    refine V.seq ?_
    refine V.region ?_
    refine VL.r (.inl rfl) rfl (by decide) (yr_assign (u := .bool true) rfl rfl) ?_
    refine VL.nil ?_
    refine VE.then_wp ?_
    refine V.ret ?_
    refine VE.then_ret ?_
    refine ret1 rfl rfl (fun w1 hw => ?_)
    exact ⟨congrArg Value.bool (by first | rfl | exact (fx_sr hf33 hg33 hh33).2.2.2), hw.below⟩
  · skip
    rw [Bool.or_eq_false_iff, decide_eq_false_iff_not, decide_eq_false_iff_not] at h1
    have hl1 := h1.1
    have hl2 := h1.2
    refine V.skip ?_
    refine VE.then_wp ?_
    refine V.seq ?_
    refine V.region ?_
    refine VL.new (.inl rfl) rfl (by decide) (yn_callf rfl known5_Rx8 (.cons rfl (.cons rfl (.cons rfl (.cons rfl .nil)))) (fun w hw => c_ring8)) ?_
    rintro ⟨a27, c27⟩
    refine VL.r (.inl rfl) rfl (by decide) (yr_move rfl rfl) ?_
    refine VL.r (.inl rfl) rfl (by decide) (yr_extract rfl rfl rfl (by nofun)) ?_
    refine VL.r (.inl rfl) rfl (by decide) (yr_extract rfl rfl rfl (by nofun)) ?_
    refine VL.new1 (.inl rfl) rfl (by decide) (yn_alloc rfl zero27_Rx8 rfl) ?_
    intro b5
    refine VL.s (.inl rfl) rfl (yc_store rfl sz27_Rx8 rfl rfl (by repeat (first | exact UpdF.here | apply UpdF.there | apply UpdF.thereS)) (.inr ⟨rfl, rfl⟩) rfl (by first | exact Nat.le_of_ble_eq_true rfl | simp) (by decide) rfl) ?_
    rintro ⟨⟩
    refine VL.r (.inl rfl) rfl (by decide) (yr_assign rfl rfl) ?_
    refine VL.nil ?_
    refine VE.then_wp ?_
    refine V.seq ?_
    refine V.region ?_
    refine VL.q (.inl rfl) rfl (by decide) (yq_loadS rfl Try.underlying27 sz27_Rx8 rfl (by first | exact Sees.root (by assumption) | exact Sees.own (by repeat (first | exact List.mem_cons_self | exact List.mem_append_left _ (by assumption) | apply List.mem_cons_of_mem | apply List.mem_append_right)) | exact Sees.root (hR _ (by omega)) | exact Sees.own (RowsIn.mem (by repeat (first | exact RowsIn.here | exact RowsIn.last | apply RowsIn.there | apply RowsIn.thereS)) _ (by omega)) | exact Sees.own (WRowsIn.mem (by repeat (first | exact WRowsIn.here | exact WRowsIn.last | apply WRowsIn.there | apply WRowsIn.thereS)) _ (by omega))) rfl rfl rfl) ?_
    refine VL.new1 (.inl rfl) rfl (by decide) (yn_buildSlice rfl Try.underlying30 elt27_Rx8 rfl (by decide) (.cons rfl .nil) (by first | (simp; done) | (simp [vv]; done)) rfl rfl) ?_
    intro b31
    refine VL.r (.inl rfl) rfl (by decide) (yr_assign rfl rfl) ?_
    refine VL.nil ?_
    refine VE.then_wp ?_
    refine V.seq ?_
    refine V.region ?_
    refine VL.r (.inl rfl) rfl (by decide) (yr_move rfl rfl) ?_
    refine VL.new (.inl rfl) rfl (by decide) (yn_callf rfl known6_Rx8 (.cons rfl (.cons rfl .nil)) (fun w hw => (c_r8Vec (by first | exact Sees.root (by assumption) w hw | exact Sees.own (by repeat (first | exact List.mem_cons_self | exact List.mem_append_left _ (by assumption) | apply List.mem_cons_of_mem | apply List.mem_append_right)) w hw) hcb (by omega)))) ?_
    rintro ⟨⟨f33, g33, h33⟩, hf33, hg33, hh33⟩
    refine VL.new1 (.inl rfl) rfl (by decide) (yn_alloc rfl zero32_Rx8 rfl) ?_
    intro b8
    refine VL.s (.inl rfl) rfl (yc_store rfl sz32_Rx8 rfl rfl (by repeat (first | exact UpdF.here | apply UpdF.there | apply UpdF.thereS)) (.inr ⟨rfl, rfl⟩) rfl (by first | exact Nat.le_of_ble_eq_true rfl | simp) (by decide) rfl) ?_
    rintro ⟨⟩
    refine VL.nil ?_
    refine VE.then_wp ?_
    refine V.seq ?_
    refine V.region ?_
    refine VL.r (.inl rfl) rfl (by decide) (yr_fieldAddr rfl Try.underlying32 rfl rfl sz25_Rx8 (by decide) rfl) ?_
    refine VL.q (.inl rfl) rfl (by decide) (yq_load rfl fb25_Rx8 rfl (by first | exact Sees.root (by assumption) | exact Sees.own (by repeat (first | exact List.mem_cons_self | exact List.mem_append_left _ (by assumption) | apply List.mem_cons_of_mem | apply List.mem_append_right)) | exact Sees.root (hR _ (by omega)) | exact Sees.own (RowsIn.mem (by repeat (first | exact RowsIn.here | exact RowsIn.last | apply RowsIn.there | apply RowsIn.thereS)) _ (by omega)) | exact Sees.own (WRowsIn.mem (by repeat (first | exact WRowsIn.here | exact WRowsIn.last | apply WRowsIn.there | apply WRowsIn.thereS)) _ (by omega))) rfl) ?_
    refine VL.r (.inl rfl) rfl (by decide) (show YR _ _ _ (.float .f32 (lz9 h33)) from (by unfold lz9; exact yr_float rfl (.inl rfl) rfl rfl)) ?_
    refine VL.r (.inl rfl) rfl (by decide) (yr_fieldAddr rfl Try.underlying32 rfl rfl sz25_Rx8 (by decide) rfl) ?_
    refine VL.s (.inl rfl) rfl (yc_store rfl sz25_Rx8 rfl rfl (by repeat (first | exact UpdF.here | apply UpdF.there | apply UpdF.thereS)) (.inl ⟨rfl, rfl⟩) rfl (by first | exact Nat.le_of_ble_eq_true rfl | simp) (by decide) rfl) ?_
    rintro ⟨⟩
    refine VL.nil ?_
    refine VE.then_wp ?_
    refine V.seq ?_
    refine V.region ?_
    refine VL.r (.inl rfl) rfl (by decide) (yr_move rfl rfl) ?_
    refine VL.q (.inl rfl) rfl (by decide) (yq_loadS rfl Try.underlying32 sz32_Rx8 rfl (by first | exact Sees.root (by assumption) | exact Sees.own (by repeat (first | exact List.mem_cons_self | exact List.mem_append_left _ (by assumption) | apply List.mem_cons_of_mem | apply List.mem_append_right)) | exact Sees.root (hR _ (by omega)) | exact Sees.own (RowsIn.mem (by repeat (first | exact RowsIn.here | exact RowsIn.last | apply RowsIn.there | apply RowsIn.thereS)) _ (by omega)) | exact Sees.own (WRowsIn.mem (by repeat (first | exact WRowsIn.here | exact WRowsIn.last | apply WRowsIn.there | apply WRowsIn.thereS)) _ (by omega))) rfl rfl rfl) ?_
    refine VL.new1 (.inl rfl) rfl (by decide) (yn_callf rfl known7_Rx8 (.cons rfl (.cons rfl (.cons rfl (.cons rfl (.cons rfl (.cons rfl .nil)))))) (fun w hw => (c_fillE (x := f33) (y := g33) (z := h33) (show Cl _ _ (whd (fun _ => (a27, c27)) (rW (i8L 8))) from by rw [whd_i8]; exact (by first | exact Sees.root (by assumption) w hw | exact Sees.own (by repeat (first | exact List.mem_cons_self | exact List.mem_append_left _ (by assumption) | apply List.mem_cons_of_mem | apply List.mem_append_right)) w hw)) (wrw_one (L := i8L 8) (by first | exact Sees.root (by assumption) w hw | exact Sees.own (by repeat (first | exact List.mem_cons_self | exact List.mem_append_left _ (by assumption) | apply List.mem_cons_of_mem | apply List.mem_append_right)) w hw)) hf33 hg33 hh33))) ?_
    rintro ⟨a41, c41⟩
    refine VL.r (.inl rfl) rfl (by decide) (yr_move rfl rfl) ?_
    refine VL.r (.inl rfl) rfl (by decide) (yr_extract rfl rfl rfl (by nofun)) ?_
    refine VL.r (.inl rfl) rfl (by decide) (yr_extract rfl rfl rfl (by nofun)) ?_
    refine VL.new1 (.inl rfl) rfl (by decide) (yn_alloc rfl zero35_Rx8 rfl) ?_
    intro b9
    refine VL.s (.inl rfl) rfl (yc_store rfl sz35_Rx8 rfl rfl (by repeat (first | exact UpdF.here | apply UpdF.there | apply UpdF.thereS)) (.inr ⟨rfl, rfl⟩) rfl (by first | exact Nat.le_of_ble_eq_true rfl | simp) (by decide) rfl) ?_
    rintro ⟨⟩
    refine VL.r (.inl rfl) rfl (by decide) (yr_assign rfl rfl) ?_
    refine VL.nil ?_
    refine VE.then_wp ?_
    refine V.seq ?_
    refine V.seq ?_
    refine V.region ?_
    refine VL.r (.inl rfl) rfl (by decide) (yr_move rfl rfl) ?_
    refine VL.r (.inl rfl) rfl (by decide) (yr_not rfl rfl) ?_
    refine VL.r (.inl rfl) rfl (by decide) (yr_move rfl rfl) ?_
    refine VX.split 46 _ rfl (fun h2 => ?_) (fun h2 => ?_)
    · skip
      replace h2 := bnot_t h2
      first | cases h2 | (simp at h2; done)
    · skip
      replace h2 := bnot_f h2
      refine VL.r (.inr ⟨_, _, _, rfl, rfl, rfl⟩) rfl (by decide) (yr_move rfl rfl) ?_
      refine VL.r (.inr ⟨_, _, _, rfl, rfl, rfl⟩) rfl (by decide) (yr_not rfl rfl) ?_
      refine VL.r (.inl rfl) rfl (by decide) (yr_pick_f rfl rfl rfl) ?_
      refine VL.r (.inl rfl) rfl (by decide) (yr_move rfl rfl) ?_
      refine VX.split 50 _ rfl (fun h3 => ?_) (fun h3 => ?_)
      · skip
        replace h3 := bnot_t h3
        first | cases h3 | (simp at h3; done)
      · skip
        replace h3 := bnot_f h3
        refine VL.q (.inr ⟨_, _, _, rfl, rfl, rfl⟩) rfl (by decide) (yq_loadS rfl Try.underlying35 sz35_Rx8 rfl (by first | exact Sees.root (by assumption) | exact Sees.own (by repeat (first | exact List.mem_cons_self | exact List.mem_append_left _ (by assumption) | apply List.mem_cons_of_mem | apply List.mem_append_right)) | exact Sees.root (hR _ (by omega)) | exact Sees.own (RowsIn.mem (by repeat (first | exact RowsIn.here | exact RowsIn.last | apply RowsIn.there | apply RowsIn.thereS)) _ (by omega)) | exact Sees.own (WRowsIn.mem (by repeat (first | exact WRowsIn.here | exact WRowsIn.last | apply WRowsIn.there | apply WRowsIn.thereS)) _ (by omega))) rfl rfl rfl) ?_
        refine VL.q (.inr ⟨_, _, _, rfl, rfl, rfl⟩) rfl (by decide) (yq_callf rfl known8_Rx8 (.cons rfl .nil) (fun w hw => (c_meshE (x := f33) (y := g33) (z := h33) hf33 hg33 hh33))) ?_
        refine VL.r (.inr ⟨_, _, _, rfl, rfl, rfl⟩) rfl (by decide) (yr_not rfl rfl) ?_
        refine VL.r (.inl rfl) rfl (by decide) (yr_pick_f rfl rfl rfl) ?_
        refine VL.r (.inl rfl) rfl (by decide) (yr_move rfl rfl) ?_
        refine VX.split 55 _ rfl (fun h4 => ?_) (fun h4 => ?_)
        · skip
          replace h4 := bnot_t h4
          first | cases h4 | (simp at h4; done)
        · skip
          replace h4 := bnot_f h4
          refine VL.r (.inr ⟨_, _, _, rfl, rfl, rfl⟩) rfl (by decide) (yr_fieldAddr rfl Try.underlying35 rfl rfl sz24_Rx8 (by decide) rfl) ?_
          refine VL.q (.inr ⟨_, _, _, rfl, rfl, rfl⟩) rfl (by decide) (yq_load rfl fb24_Rx8 rfl (by first | exact Sees.root (by assumption) | exact Sees.own (by repeat (first | exact List.mem_cons_self | exact List.mem_append_left _ (by assumption) | apply List.mem_cons_of_mem | apply List.mem_append_right)) | exact Sees.root (hR _ (by omega)) | exact Sees.own (RowsIn.mem (by repeat (first | exact RowsIn.here | exact RowsIn.last | apply RowsIn.there | apply RowsIn.thereS)) _ (by omega)) | exact Sees.own (WRowsIn.mem (by repeat (first | exact WRowsIn.here | exact WRowsIn.last | apply WRowsIn.there | apply WRowsIn.thereS)) _ (by omega))) rfl) ?_
          refine VL.r (.inr ⟨_, _, _, rfl, rfl, rfl⟩) rfl (by decide) (yr_len rfl Try.underlying24 rfl) ?_
          refine VL.r (.inr ⟨_, _, _, rfl, rfl, rfl⟩) rfl (by decide) (yr_icmp rfl (.inr (.inl rfl)) rfl rfl) ?_
          refine VL.r (.inl rfl) rfl (by decide) (yr_pick_f rfl rfl rfl) ?_
          refine VL.nil ?_
          refine VE.then_wp ?_
          refine V.cond rfl (fun h5 => ?_) (fun h5 => ?_)
          · skip
            replace h5 := ic_neq h5
            first | cases h5 | (simp at h5; done)
          · skip
            replace h5 := ic_neq' h5
            refine V.skip ?_
            refine VE.then_wp ?_
            refine V.seq ?_
            refine V.region ?_
            refine VL.r (.inl rfl) rfl (by decide) (yr_move rfl rfl) ?_
            refine VL.new (.inl rfl) rfl (by decide) (yn_callf rfl known9_Rx8 (.cons rfl (.cons rfl (.cons rfl .nil))) (fun w hw => (c_r8AtF (k := 0) (m := 3) (by first | exact Sees.root (by assumption) w hw | exact Sees.own (by repeat (first | exact List.mem_cons_self | exact List.mem_append_left _ (by assumption) | apply List.mem_cons_of_mem | apply List.mem_append_right)) w hw) hb (by omega) (by decide)))) ?_
            rintro ⟨x62, hx62⟩
            refine VL.r (.inl rfl) rfl (by decide) (yr_assign rfl rfl) ?_
            refine VL.nil ?_
            refine VE.then_wp ?_
            refine V.seq ?_
            refine V.region ?_
            refine VL.r (.inl rfl) rfl (by decide) (yr_move rfl rfl) ?_
            refine VL.new (.inl rfl) rfl (by decide) (yn_callf rfl known9_Rx8 (.cons rfl (.cons rfl (.cons rfl .nil))) (fun w hw => (c_r8AtF (k := 1) (m := 3) (by first | exact Sees.root (by assumption) w hw | exact Sees.own (by repeat (first | exact List.mem_cons_self | exact List.mem_append_left _ (by assumption) | apply List.mem_cons_of_mem | apply List.mem_append_right)) w hw) hb (by omega) (by decide)))) ?_
            rintro ⟨x64, hx64⟩
            refine VL.r (.inl rfl) rfl (by decide) (yr_assign rfl rfl) ?_
            refine VL.nil ?_
            refine VE.then_wp ?_
            refine V.seq ?_
            refine V.region ?_
            refine VL.r (.inl rfl) rfl (by decide) (yr_move rfl rfl) ?_
            refine VL.new (.inl rfl) rfl (by decide) (yn_callf rfl known9_Rx8 (.cons rfl (.cons rfl (.cons rfl .nil))) (fun w hw => (c_r8AtF (k := 2) (m := 3) (by first | exact Sees.root (by assumption) w hw | exact Sees.own (by repeat (first | exact List.mem_cons_self | exact List.mem_append_left _ (by assumption) | apply List.mem_cons_of_mem | apply List.mem_append_right)) w hw) hb (by omega) (by decide)))) ?_
            rintro ⟨x66, hx66⟩
            refine VL.r (.inl rfl) rfl (by decide) (yr_assign rfl rfl) ?_
            refine VL.nil ?_
            refine VE.then_wp ?_
            refine V.seq ?_
            refine V.region ?_
            refine VL.q (.inl rfl) rfl (by decide) (yq_loadS rfl Try.underlying35 sz35_Rx8 rfl (by first | exact Sees.root (by assumption) | exact Sees.own (by repeat (first | exact List.mem_cons_self | exact List.mem_append_left _ (by assumption) | apply List.mem_cons_of_mem | apply List.mem_append_right)) | exact Sees.root (hR _ (by omega)) | exact Sees.own (RowsIn.mem (by repeat (first | exact RowsIn.here | exact RowsIn.last | apply RowsIn.there | apply RowsIn.thereS)) _ (by omega)) | exact Sees.own (WRowsIn.mem (by repeat (first | exact WRowsIn.here | exact WRowsIn.last | apply WRowsIn.there | apply WRowsIn.thereS)) _ (by omega))) rfl rfl rfl) ?_
            refine VL.r (.inl rfl) rfl (by decide) (yr_move rfl rfl) ?_
            refine VL.r (.inl rfl) rfl (by decide) (yr_move rfl rfl) ?_
            refine VL.r (.inl rfl) rfl (by decide) (yr_move rfl rfl) ?_
            refine VL.q (.inl rfl) rfl (by decide) (yq_callf rfl known10_Rx8 (.cons rfl (.cons rfl (.cons rfl (.cons rfl .nil)))) (fun w hw => (c_nodeFE (x := f33) (y := g33) (z := h33) (i := x62) (j := x64) (k := x66) (by first | exact Sees.root (by assumption) w hw | exact Sees.own (by repeat (first | exact List.mem_cons_self | exact List.mem_append_left _ (by assumption) | apply List.mem_cons_of_mem | apply List.mem_append_right)) w hw) hf33 hg33 hh33 hx62 hx64 hx66))) ?_
            refine VL.r (.inl rfl) rfl (by decide) (yr_move rfl rfl) ?_
            refine VL.r (.inl rfl) rfl (by decide) (yr_extract rfl rfl rfl (by nofun)) ?_
            refine VL.r (.inl rfl) rfl (by decide) (yr_extract rfl rfl rfl (by nofun)) ?_
            refine VL.r (.inl rfl) rfl (by decide) (yr_extract rfl rfl rfl (by nofun)) ?_
            refine VL.new1 (.inl rfl) rfl (by decide) (yn_alloc rfl zero32_Rx8 rfl) ?_
            intro b14
            refine VL.new1 (.inl rfl) rfl (by decide) (yn_alloc rfl zero32_Rx8 rfl) ?_
            intro b15
            refine VL.s (.inl rfl) rfl (yc_store rfl sz32_Rx8 rfl rfl (by repeat (first | exact UpdF.here | apply UpdF.there | apply UpdF.thereS)) (.inr ⟨rfl, rfl⟩) rfl (by first | exact Nat.le_of_ble_eq_true rfl | simp) (by decide) rfl) ?_
            rintro ⟨⟩
            refine VL.s (.inl rfl) rfl (yc_store rfl sz32_Rx8 rfl rfl (by repeat (first | exact UpdF.here | apply UpdF.there | apply UpdF.thereS)) (.inr ⟨rfl, rfl⟩) rfl (by first | exact Nat.le_of_ble_eq_true rfl | simp) (by decide) rfl) ?_
            rintro ⟨⟩
            refine VL.r (.inl rfl) rfl (by decide) (yr_assign rfl rfl) ?_
            refine VL.nil ?_
            refine VE.then_wp ?_
            refine V.seq ?_
            refine V.region ?_
            refine VL.r (.inl rfl) rfl (by decide) (yr_move rfl rfl) ?_
            refine VL.q (.inl rfl) rfl (by decide) (yq_loadS rfl Try.underlying32 sz32_Rx8 rfl (by first | exact Sees.root (by assumption) | exact Sees.own (by repeat (first | exact List.mem_cons_self | exact List.mem_append_left _ (by assumption) | apply List.mem_cons_of_mem | apply List.mem_append_right)) | exact Sees.root (hR _ (by omega)) | exact Sees.own (RowsIn.mem (by repeat (first | exact RowsIn.here | exact RowsIn.last | apply RowsIn.there | apply RowsIn.thereS)) _ (by omega)) | exact Sees.own (WRowsIn.mem (by repeat (first | exact WRowsIn.here | exact WRowsIn.last | apply WRowsIn.there | apply WRowsIn.thereS)) _ (by omega))) rfl rfl rfl) ?_
            refine VL.q (.inl rfl) rfl (by decide) (yq_callf rfl known11_Rx8 (.cons rfl (.cons rfl .nil)) (fun w hw => (c_fldFE (x := f33) (y := g33) (z := h33) (i := x62) (j := x64) (k := x66) (show Cl _ _ (whd (fun _ => (a27, c27)) (rW (i8L 8))) from by rw [whd_i8]; exact (by first | exact Sees.root (by assumption) w hw | exact Sees.own (by repeat (first | exact List.mem_cons_self | exact List.mem_append_left _ (by assumption) | apply List.mem_cons_of_mem | apply List.mem_append_right)) w hw)) (wrw_one (L := i8L 8) (by first | exact Sees.root (by assumption) w hw | exact Sees.own (by repeat (first | exact List.mem_cons_self | exact List.mem_append_left _ (by assumption) | apply List.mem_cons_of_mem | apply List.mem_append_right)) w hw)) hf33 hg33 hh33 hx62 hx64 hx66))) ?_
            refine VL.r (.inl rfl) rfl (by decide) (yr_move rfl rfl) ?_
            refine VL.r (.inl rfl) rfl (by decide) (yr_extract rfl rfl rfl (by nofun)) ?_
            refine VL.r (.inl rfl) rfl (by decide) (yr_extract rfl rfl rfl (by nofun)) ?_
            refine VL.new1 (.inl rfl) rfl (by decide) (yn_alloc rfl zero32_Rx8 rfl) ?_
            intro b17
            refine VL.s (.inl rfl) rfl (yc_store rfl sz32_Rx8 rfl rfl (by repeat (first | exact UpdF.here | apply UpdF.there | apply UpdF.thereS)) (.inr ⟨rfl, rfl⟩) rfl (by first | exact Nat.le_of_ble_eq_true rfl | simp) (by decide) rfl) ?_
            rintro ⟨⟩
            refine VL.r (.inl rfl) rfl (by decide) (yr_assign rfl rfl) ?_
            refine VL.nil ?_
            refine VE.then_wp ?_
            refine V.seq ?_
            refine V.region ?_
            refine VL.r (.inl rfl) rfl (by decide) (yr_move rfl rfl) ?_
            refine VL.q (.inl rfl) rfl (by decide) (yq_loadS rfl Try.underlying35 sz35_Rx8 rfl (by first | exact Sees.root (by assumption) | exact Sees.own (by repeat (first | exact List.mem_cons_self | exact List.mem_append_left _ (by assumption) | apply List.mem_cons_of_mem | apply List.mem_append_right)) | exact Sees.root (hR _ (by omega)) | exact Sees.own (RowsIn.mem (by repeat (first | exact RowsIn.here | exact RowsIn.last | apply RowsIn.there | apply RowsIn.thereS)) _ (by omega)) | exact Sees.own (WRowsIn.mem (by repeat (first | exact WRowsIn.here | exact WRowsIn.last | apply WRowsIn.there | apply WRowsIn.thereS)) _ (by omega))) rfl rfl rfl) ?_
            refine VL.q (.inl rfl) rfl (by decide) (yq_callf rfl known12_Rx8 (.cons rfl (.cons rfl .nil)) (fun w hw => (c_wbE (x := f33) (y := g33) (z := h33) (show Cl _ _ (whd (fun _ => (a27, c27)) (rW (i8L 8))) from by rw [whd_i8]; exact (by first | exact Sees.root (by assumption) w hw | exact Sees.own (by repeat (first | exact List.mem_cons_self | exact List.mem_append_left _ (by assumption) | apply List.mem_cons_of_mem | apply List.mem_append_right)) w hw)) (wrw_one (L := i8L 8) (by first | exact Sees.root (by assumption) w hw | exact Sees.own (by repeat (first | exact List.mem_cons_self | exact List.mem_append_left _ (by assumption) | apply List.mem_cons_of_mem | apply List.mem_append_right)) w hw)) (by first | exact Sees.root (by assumption) w hw | exact Sees.own (by repeat (first | exact List.mem_cons_self | exact List.mem_append_left _ (by assumption) | apply List.mem_cons_of_mem | apply List.mem_append_right)) w hw) hf33 hg33 hh33))) ?_
            refine VL.r (.inl rfl) rfl (by decide) (yr_move rfl rfl) ?_
            refine VL.r (.inl rfl) rfl (by decide) (yr_extract rfl rfl rfl (by nofun)) ?_
            refine VL.r (.inl rfl) rfl (by decide) (yr_extract rfl rfl rfl (by nofun)) ?_
            refine VL.r (.inl rfl) rfl (by decide) (yr_assign rfl rfl) ?_
            refine VL.r (.inl rfl) rfl (by decide) (yr_assign rfl rfl) ?_
            refine VL.nil ?_
            refine VE.then_wp ?_
            refine V.seq ?_
            refine V.region ?_
            refine VL.q (.inl rfl) rfl (by decide) (yq_loadS rfl Try.underlying35 sz35_Rx8 rfl (by first | exact Sees.root (by assumption) | exact Sees.own (by repeat (first | exact List.mem_cons_self | exact List.mem_append_left _ (by assumption) | apply List.mem_cons_of_mem | apply List.mem_append_right)) | exact Sees.root (hR _ (by omega)) | exact Sees.own (RowsIn.mem (by repeat (first | exact RowsIn.here | exact RowsIn.last | apply RowsIn.there | apply RowsIn.thereS)) _ (by omega)) | exact Sees.own (WRowsIn.mem (by repeat (first | exact WRowsIn.here | exact WRowsIn.last | apply WRowsIn.there | apply WRowsIn.thereS)) _ (by omega))) rfl rfl rfl) ?_
            refine VL.new1 (.inl rfl) rfl (by decide) (yn_callf rfl known13_Rx8 (.cons rfl .nil) (fun w hw => (c_srcE (x := f33) (y := g33) (z := h33) (by first | exact Sees.root (by assumption) w hw | exact Sees.own (by repeat (first | exact List.mem_cons_self | exact List.mem_append_left _ (by assumption) | apply List.mem_cons_of_mem | apply List.mem_append_right)) w hw) hf33 hg33 hh33))) ?_
            rintro ⟨a90, c90⟩
            refine VL.r (.inl rfl) rfl (by decide) (yr_move rfl rfl) ?_
            refine VL.r (.inl rfl) rfl (by decide) (yr_extract rfl rfl rfl (by nofun)) ?_
            refine VL.r (.inl rfl) rfl (by decide) (yr_extract rfl rfl rfl (by nofun)) ?_
            refine VL.r (.inl rfl) rfl (by decide) (yr_assign rfl rfl) ?_
            refine VL.r (.inl rfl) rfl (by decide) (yr_assign rfl rfl) ?_
            refine VL.nil ?_
            refine VE.then_wp ?_
            refine V.seq ?_
            refine V.region ?_
            refine VL.r (.inl rfl) rfl (by decide) (yr_move rfl rfl) ?_
            refine VL.r (.inl rfl) rfl (by decide) (yr_move rfl rfl) ?_
            refine VX.split 94 _ rfl (fun h6 => ?_) (fun h6 => ?_)
            · skip
              refine VL.r (.inr ⟨_, _, _, rfl, rfl, rfl⟩) rfl (by decide) (yr_move rfl rfl) ?_
              refine VL.r (.inl rfl) rfl (by decide) (yr_pick_t rfl rfl rfl) ?_
              refine VL.r (.inl rfl) rfl (by decide) (yr_move rfl rfl) ?_
              refine VX.split 97 _ rfl (fun h7 => ?_) (fun h7 => ?_)
              · skip
                refine VL.r (.inr ⟨_, _, _, rfl, rfl, rfl⟩) rfl (by decide) (yr_move rfl rfl) ?_
                refine VL.r (.inl rfl) rfl (by decide) (yr_pick_t rfl rfl rfl) ?_
                refine VL.r (.inl rfl) rfl (by decide) (yr_move rfl rfl) ?_
                refine VX.split 100 _ rfl (fun h8 => ?_) (fun h8 => ?_)
                · skip
                  refine VL.r (.inr ⟨_, _, _, rfl, rfl, rfl⟩) rfl (by decide) (yr_move rfl rfl) ?_
                  refine VL.r (.inl rfl) rfl (by decide) (yr_pick_t rfl rfl rfl) ?_
                  refine VL.r (.inl rfl) rfl (by decide) (yr_move rfl rfl) ?_
                  refine VX.split 103 _ rfl (fun h9 => ?_) (fun h9 => ?_)
                  · skip
                    refine VL.q (.inr ⟨_, _, _, rfl, rfl, rfl⟩) rfl (by decide) (yq_loadS rfl Try.underlying32 sz32_Rx8 rfl (by first | exact Sees.root (by assumption) | exact Sees.own (by repeat (first | exact List.mem_cons_self | exact List.mem_append_left _ (by assumption) | apply List.mem_cons_of_mem | apply List.mem_append_right)) | exact Sees.root (hR _ (by omega)) | exact Sees.own (RowsIn.mem (by repeat (first | exact RowsIn.here | exact RowsIn.last | apply RowsIn.there | apply RowsIn.thereS)) _ (by omega)) | exact Sees.own (WRowsIn.mem (by repeat (first | exact WRowsIn.here | exact WRowsIn.last | apply WRowsIn.there | apply WRowsIn.thereS)) _ (by omega))) rfl rfl rfl) ?_
                    refine VL.q (.inr ⟨_, _, _, rfl, rfl, rfl⟩) rfl (by decide) (yq_loadS rfl Try.underlying32 sz32_Rx8 rfl (by first | exact Sees.root (by assumption) | exact Sees.own (by repeat (first | exact List.mem_cons_self | exact List.mem_append_left _ (by assumption) | apply List.mem_cons_of_mem | apply List.mem_append_right)) | exact Sees.root (hR _ (by omega)) | exact Sees.own (RowsIn.mem (by repeat (first | exact RowsIn.here | exact RowsIn.last | apply RowsIn.there | apply RowsIn.thereS)) _ (by omega)) | exact Sees.own (WRowsIn.mem (by repeat (first | exact WRowsIn.here | exact WRowsIn.last | apply WRowsIn.there | apply WRowsIn.thereS)) _ (by omega))) rfl rfl rfl) ?_
                    refine VL.r (.inr ⟨_, _, _, rfl, rfl, rfl⟩) rfl (by decide) (yr_veq (a := fieldI (rW (i8L 8)) (fxP f33 g33 h33 x62 x64 x66)) rfl (.inl rfl) (by kernel_rfl) veq32_Rx8 rfl rfl rfl (fx_nan hf33 hg33 hh33 hx62 hx64 hx66).1 (fx_nan hf33 hg33 hh33 hx62 hx64 hx66).2.1 (fx_nan hf33 hg33 hh33 hx62 hx64 hx66).2.2) ?_
                    refine VL.r (.inl rfl) rfl (by decide) (yr_pick_t rfl rfl rfl) ?_
                    refine VL.r (.inl rfl) rfl (by decide) (yr_move rfl rfl) ?_
                    refine VX.split 108 _ rfl (fun h10 => ?_) (fun h10 => ?_)
                    · skip
                      refine VL.r (.inr ⟨_, _, _, rfl, rfl, rfl⟩) rfl (by decide) (yr_move rfl rfl) ?_
                      refine VL.r (.inr ⟨_, _, _, rfl, rfl, rfl⟩) rfl (by decide) (yr_fcmp (b := 0) rfl (.inr (.inr (.inr (.inr (.inr rfl))))) rfl rfl) ?_
                      refine VL.r (.inl rfl) rfl (by decide) (yr_pick_t rfl rfl rfl) ?_
                      refine VL.r (.inl rfl) rfl (by decide) (yr_move rfl rfl) ?_
                      refine VX.split 112 _ rfl (fun h11 => ?_) (fun h11 => ?_)
                      · skip
                        refine VL.r (.inr ⟨_, _, _, rfl, rfl, rfl⟩) rfl (by decide) (yr_move rfl rfl) ?_
                        refine VL.r (.inr ⟨_, _, _, rfl, rfl, rfl⟩) rfl (by decide) (yr_fconv rfl Try.underlying25 Try.underlying49 (by decide) rfl (fover_up _)) ?_
                        refine VL.r (.inr ⟨_, _, _, rfl, rfl, rfl⟩) rfl (by decide) (yr_fcmp (b := 4587366580439587226) rfl (.inr (.inr (.inl rfl))) rfl rfl) ?_
                        refine VL.r (.inl rfl) rfl (by decide) (yr_pick_t rfl rfl rfl) ?_
                        refine VL.r (.inl rfl) rfl (by decide) (yr_move rfl rfl) ?_
                        refine VX.split 117 _ rfl (fun h12 => ?_) (fun h12 => ?_)
                        · skip
                          refine VL.r (.inr ⟨_, _, _, rfl, rfl, rfl⟩) rfl (by decide) (yr_move rfl rfl) ?_
                          refine VL.r (.inr ⟨_, _, _, rfl, rfl, rfl⟩) rfl (by decide) (yr_len rfl Try.underlying46 rfl) ?_
                          refine VL.r (.inr ⟨_, _, _, rfl, rfl, rfl⟩) rfl (by decide) (yr_icmp rfl (.inl rfl) rfl rfl) ?_
                          refine VL.r (.inl rfl) rfl (by decide) (yr_pick_t rfl rfl rfl) ?_
                          refine VL.r (.inl rfl) rfl (by decide) (yr_move rfl rfl) ?_
                          refine VX.split 122 _ rfl (fun h13 => ?_) (fun h13 => ?_)
                          · skip
                            replace h13 := ic_eql h13
                            refine VL.r (.inr ⟨_, _, _, rfl, rfl, rfl⟩) rfl (by decide) (yr_move rfl rfl) ?_
                            refine VL.q (.inr ⟨_, _, _, rfl, rfl, rfl⟩) rfl (by decide) (yq_idx (k := 0) rfl Try.underlying46 sz25_Rx8 rfl rfl (by first | exact Sees.root (by assumption) | exact Sees.own (by repeat (first | exact List.mem_cons_self | exact List.mem_append_left _ (by assumption) | apply List.mem_cons_of_mem | apply List.mem_append_right)) | exact Sees.root (hR _ (by omega)) | exact Sees.own (RowsIn.mem (by repeat (first | exact RowsIn.here | exact RowsIn.last | apply RowsIn.there | apply RowsIn.thereS)) _ (by omega)) | exact Sees.own (WRowsIn.mem (by repeat (first | exact WRowsIn.here | exact WRowsIn.last | apply WRowsIn.there | apply WRowsIn.thereS)) _ (by omega))) (by first | rfl | omega | (push_cast; rfl) | (push_cast; omega) | exact tmod_nat _ _) (by first | exact fl_length _ | exact hd_length _ _ | simp) (by omega)) ?_
                            refine VL.q (.inr ⟨_, _, _, rfl, rfl, rfl⟩) rfl (by decide) (YQ.cast (congrArg (Value.float .f32) (fx_get rfl)) (yq_loadF rfl fb25_Rx8 rfl (by first | exact Sees.root (by assumption) | exact Sees.own (by repeat (first | exact List.mem_cons_self | exact List.mem_append_left _ (by assumption) | apply List.mem_cons_of_mem | apply List.mem_append_right)) | exact Sees.root (hR _ (by omega)) | exact Sees.own (RowsIn.mem (by repeat (first | exact RowsIn.here | exact RowsIn.last | apply RowsIn.there | apply RowsIn.thereS)) _ (by omega)) | exact Sees.own (WRowsIn.mem (by repeat (first | exact WRowsIn.here | exact WRowsIn.last | apply WRowsIn.there | apply WRowsIn.thereS)) _ (by omega))) (by show 0 < 1; decide))) ?_
                            refine VL.r (.inr ⟨_, _, _, rfl, rfl, rfl⟩) rfl (by decide) (yr_fconv rfl Try.underlying25 Try.underlying49 (by decide) rfl (fover_up _)) ?_
                            refine VL.q (.inr ⟨_, _, _, rfl, rfl, rfl⟩) rfl (by decide) (yq_callf rfl known14_Rx8 (.cons rfl (.cons rfl .nil)) (fun w hw => (c_r8GapF (fx_sr hf33 hg33 hh33).2.1 (fx_sr hf33 hg33 hh33).2.2.1))) ?_
                            refine VL.r (.inr ⟨_, _, _, rfl, rfl, rfl⟩) rfl (by decide) (yr_fcmp (b := 4587366580439587226) rfl (.inr (.inr (.inl rfl))) rfl rfl) ?_
                            refine VL.r (.inl rfl) rfl (by decide) (yr_pick_t rfl rfl rfl) ?_
                            refine VL.r (.inl rfl) rfl (by decide) (yr_assign rfl rfl) ?_
                            refine VL.nil ?_
                            refine VE.then_wp ?_
                            refine V.ret ?_
                            refine ret1 rfl rfl (fun w1 hw => ?_)
                            exact ⟨congrArg Value.bool (by first | rfl | exact (fx_sr hf33 hg33 hh33).2.2.2), hw.below⟩
                          · skip
                            replace h13 := ic_eql' h13
                            first | cases h13 | (simp at h13; done)
                        · skip
                          exact absurd h12 (by rw [(fx_wb hf33 hg33 hh33).2.2]; decide)
                      · skip
                        exact absurd h11 (by rw [(fx_wb hf33 hg33 hh33).2.1]; decide)
                    · skip
                      first | cases h10 | (simp at h10; done)
                  · skip
                    first | cases h9 | (simp at h9; done)
                · skip
                  first | cases h8 | (simp at h8; done)
              · skip
                first | cases h7 | (simp at h7; done)
            · skip
              first | cases h6 | (simp at h6; done)

end Go.Proofs.Ytfeciemlhiclbaa

