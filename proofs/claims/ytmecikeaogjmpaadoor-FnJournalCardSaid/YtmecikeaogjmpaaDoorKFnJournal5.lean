/- Own texts of this claim, merged: WDv. -/
import Derived.KernelRfl
import Derived.Test.YtmecikeaogjmpaaDoorKFnJournal4
namespace Go.Proofs.YtmecikeaogjmpaaDoor
open Go.RowKit
set_option linter.unusedVariables false
set_option linter.unusedSimpArgs false
set_option maxRecDepth 20000

theorem ext113_Dv : ExtF Tryd.prog 113 Extern.MathFloatBits.float64frombits := ⟨_, Tryd.func113, by kernel_rfl, by kernel_rfl, by kernel_rfl, by kernel_rfl⟩
theorem known112_Dv : Known Tryd.prog 112 := Known.mk' Tryd.func112 (by kernel_rfl)
theorem known110_Dv : Known Tryd.prog 110 := Known.mk' Tryd.func110 (by kernel_rfl)
theorem known109_Dv : Known Tryd.prog 109 := Known.mk' Tryd.func109 (by kernel_rfl)
theorem zero101_Dv : (Tryd.prog.info? 101).bind (·.zero) = some (Value.agg #[Value.float .f32 0, Value.float .f32 0, Value.float .f32 0]) := by kernel_rfl
theorem known102_Dv : Known Tryd.prog 102 := Known.mk' Tryd.func102 (by kernel_rfl)
theorem lay101_Dv : Lay Tryd.prog 101 [Value.float .f32 0, Value.float .f32 0, Value.float .f32 0] [(0, 1), (1, 1), (2, 1)] := Lay.mk' (by kernel_rfl) (by kernel_rfl)
theorem sz101_Dv : (Tryd.prog.info? 101).map (·.size) = some 3 := by kernel_rfl
theorem zero93_Dv : (Tryd.prog.info? 93).bind (·.zero) = some (Value.agg #[Value.slice none 0 0, Value.bool false, Value.float .f32 0]) := by kernel_rfl
theorem elt101_Dv : Elt Tryd.prog 101 [Value.float .f32 0, Value.float .f32 0, Value.float .f32 0] 12 := Elt.mk' (by kernel_rfl) (by decide)
theorem lay93_Dv : Lay Tryd.prog 93 [Value.slice none 0 0, Value.bool false, Value.float .f32 0] [(0, 1), (1, 1), (2, 1)] := Lay.mk' (by kernel_rfl) (by kernel_rfl)
theorem sz93_Dv : (Tryd.prog.info? 93).map (·.size) = some 3 := by kernel_rfl
theorem mixed_Dv : Tryd.prog.follows .mixedOrders = true := by kernel_rfl
theorem sz91_Dv : (Tryd.prog.info? 91).map (·.size) = some 1 := by kernel_rfl
theorem fb91_Dv : flatB Tryd.prog 91 = true := by kernel_rfl
theorem known87_Dv : Known Tryd.prog 87 := Known.mk' Tryd.func87 (by kernel_rfl)
theorem known104_Dv : Known Tryd.prog 104 := Known.mk' Tryd.func104 (by kernel_rfl)
theorem known88_Dv : Known Tryd.prog 88 := Known.mk' Tryd.func88 (by kernel_rfl)
theorem known89_Dv : Known Tryd.prog 89 := Known.mk' Tryd.func89 (by kernel_rfl)
theorem known35_Dv : Known Tryd.prog 35 := Known.mk' Tryd.func35 (by kernel_rfl)
theorem known53_Dv : Known Tryd.prog 53 := Known.mk' Tryd.func53 (by kernel_rfl)
theorem known72_Dv : Known Tryd.prog 72 := Known.mk' Tryd.func72 (by kernel_rfl)
theorem known73_Dv : Known Tryd.prog 73 := Known.mk' Tryd.func73 (by kernel_rfl)
theorem known54_Dv : Known Tryd.prog 54 := Known.mk' Tryd.func54 (by kernel_rfl)
theorem sz90_Dv : (Tryd.prog.info? 90).map (·.size) = some 1 := by kernel_rfl
attribute [local irreducible] fop fcmp fconv fneg fabs List.getD qw hqw w2w g2w uw sb stb dec wireOk

theorem c_nanD {w : World} : Pure Tryd.prog 112 [] w (.float .f64 (cb .f64 9221120237041090561)) := by
  refine Pure.enter Tryd.func112 rfl Tryd.ntmps112 (Nat.le_of_ble_eq_true rfl) ?_
  refine V.seq ?_
  refine V.region ?_
  refine VL.r (.inl rfl) rfl (by decide) (yr_assign (u := .float .f64 0) rfl rfl) ?_
  refine VL.nil ?_
  refine VE.then_wp ?_
  refine V.seq ?_
  refine V.region ?_
  refine VL.q (.inl rfl) rfl (by decide) (yq_ext rfl ext113_Dv (.cons rfl .nil) (fun vs w h => ext_from64 (x := 9221120237041090561) vs w h)) ?_
  refine VL.r (.inl rfl) rfl (by decide) (yr_assign rfl rfl) ?_
  refine VL.nil ?_
  refine VE.then_wp ?_
  refine V.ret ?_
  refine ret1 rfl rfl (fun w1 hw => ?_)
  exact ⟨rfl, hw.below⟩

theorem c_narD {w : World} {x : Nat} : New Tryd.prog 109 [.float .f64 x] w (fun v : Nat => .float .f32 v) (fun _ => []) := by
  refine New.enter Tryd.func109 rfl Tryd.ntmps109 (Nat.le_of_ble_eq_true rfl) ?_
  refine V.seq ?_
  refine V.region ?_
  refine VL.r (.inl rfl) rfl (by decide) (yr_assign (u := .float .f32 0) rfl rfl) ?_
  refine VL.nil ?_
  refine VE.then_wp ?_
  refine V.seq ?_
  refine V.region ?_
  refine VL.r (.inl rfl) rfl (by decide) (yr_move rfl rfl) ?_
  refine VL.new (.inl rfl) rfl (by decide) (yn_narrow rfl Tryd.underlying156 Tryd.underlying90 rfl) ?_
  rintro ⟨v4, hv4⟩
  refine VL.r (.inl rfl) rfl (by decide) (yr_assign rfl rfl) ?_
  refine VL.nil ?_
  refine VE.then_wp ?_
  refine V.ret ?_
  refine ret1 rfl rfl (fun w1 hw => ?_)
  exact ⟨_, rfl, hw.below, (fun _ h => by cases h), List.Pairwise.nil⟩

theorem c_sineW {w : World} {x : Nat} : New Tryd.prog 110 [.float .f64 x] w (fun v : Nat => .float .f64 v) (fun _ => []) := by
  refine New.enter Tryd.func110 rfl Tryd.ntmps110 (Nat.le_of_ble_eq_true rfl) ?_
  refine V.seq ?_
  refine V.region ?_
  refine VL.r (.inl rfl) rfl (by decide) (yr_assign (u := .float .f64 0) rfl rfl) ?_
  refine VL.nil ?_
  refine VE.then_wp ?_
  refine V.seq ?_
  refine V.seq ?_
  refine V.region ?_
  refine VL.r (.inl rfl) rfl (by decide) (yr_move rfl rfl) ?_
  refine VL.r (.inl rfl) rfl (by decide) (yr_move rfl rfl) ?_
  refine VL.r (.inl rfl) rfl (by decide) (yr_float rfl (.inr (.inl rfl)) rfl rfl) ?_
  refine VL.r (.inl rfl) rfl (by decide) (yr_fcmp (b := 0) rfl (.inr (.inl rfl)) rfl rfl) ?_
  refine VL.nil ?_
  refine VE.then_wp ?_
  refine V.cond rfl (fun h1 => ?_) (fun h1 => ?_)
  · skip
    refine V.seq ?_
    refine V.region ?_
    refine VL.q (.inl rfl) rfl (by decide) (yq_callf rfl known112_Dv .nil (fun w hw => c_nanD)) ?_
    refine VL.r (.inl rfl) rfl (by decide) (yr_assign rfl rfl) ?_
    refine VL.nil ?_
    refine VE.then_wp ?_
    refine V.ret ?_
    refine VE.then_ret ?_
    refine ret1 rfl rfl (fun w1 hw => ?_)
    exact ⟨_, rfl, hw.below, (fun _ h => by cases h), List.Pairwise.nil⟩
  · skip
    have hf9 := h1
    refine V.skip ?_
    refine VE.then_wp ?_
    refine V.seq ?_
    refine V.seq ?_
    refine V.region ?_
    refine VL.r (.inl rfl) rfl (by decide) (yr_move rfl rfl) ?_
    refine VL.r (.inl rfl) rfl (by decide) (yr_fcmp (b := 4841369599423283200) rfl (.inr (.inr (.inr (.inr (.inr rfl))))) rfl rfl) ?_
    refine VL.r (.inl rfl) rfl (by decide) (yr_move rfl rfl) ?_
    refine VX.split 16 _ rfl (fun h2 => ?_) (fun h2 => ?_)
    · skip
      refine VL.no rfl rfl rfl rfl rfl (by decide) ?_
      refine VL.no rfl rfl rfl rfl rfl (by decide) ?_
      refine VL.r (.inl rfl) rfl (by decide) (yr_pick_t (u := .bool true) rfl rfl rfl) ?_
      refine VL.nil ?_
      refine VE.then_wp ?_
      refine V.condT rfl ?_
      refine V.seq ?_
      refine V.region ?_
      refine VL.r (.inl rfl) rfl (by decide) (yr_assign (u := .float .f64 0) rfl rfl) ?_
      refine VL.nil ?_
      refine VE.then_wp ?_
      refine V.ret ?_
      refine VE.then_ret ?_
      refine ret1 rfl rfl (fun w1 hw => ?_)
      exact ⟨_, rfl, hw.below, (fun _ h => by cases h), List.Pairwise.nil⟩
    · skip
      have hg9 := h2
      refine VL.r (.inr ⟨_, _, _, rfl, rfl, rfl⟩) rfl (by decide) (yr_move rfl rfl) ?_
      refine VL.r (.inr ⟨_, _, _, rfl, rfl, rfl⟩) rfl (by decide) (yr_fcmp (b := 14064741636278059008) rfl (.inr (.inr (.inr (.inl rfl)))) rfl rfl) ?_
      refine VL.r (.inl rfl) rfl (by decide) (yr_pick_f rfl rfl rfl) ?_
      refine VL.nil ?_
      refine VE.then_wp ?_
      refine V.cond rfl (fun h4 => ?_) (fun h4 => ?_)
      · skip
        refine V.seq ?_
        refine V.region ?_
        refine VL.r (.inl rfl) rfl (by decide) (yr_assign (u := .float .f64 0) rfl rfl) ?_
        refine VL.nil ?_
        refine VE.then_wp ?_
        refine V.ret ?_
        refine VE.then_ret ?_
        refine ret1 rfl rfl (fun w1 hw => ?_)
        exact ⟨_, rfl, hw.below, (fun _ h => by cases h), List.Pairwise.nil⟩
      · skip
        obtain ⟨i9, hi9⟩ := toI_ok hf9 hg9 h4
        refine V.skip ?_
        refine VE.then_wp ?_
        refine V.seq ?_
        refine V.region ?_
        refine VL.r (.inl rfl) rfl (by decide) (yr_move rfl rfl) ?_
        refine VL.r (.inl rfl) rfl (by decide) (yr_move rfl rfl) ?_
        refine VL.r (.inl rfl) rfl (by decide) (yr_toInt rfl Tryd.underlying156 Tryd.underlying2 rfl hi9) ?_
        refine VL.r (.inl rfl) rfl (by decide) (yr_ofInt rfl Tryd.underlying2 Tryd.underlying156 rfl) ?_
        refine VL.r (.inl rfl) rfl (by decide) (yr_float rfl (.inr (.inl rfl)) rfl rfl) ?_
        refine VL.r (.inl rfl) rfl (by decide) (yr_assign rfl rfl) ?_
        refine VL.nil ?_
        refine VE.then_wp ?_
        refine V.seq ?_
        refine V.seq ?_
        refine V.region ?_
        refine VL.r (.inl rfl) rfl (by decide) (yr_move rfl rfl) ?_
        refine VL.r (.inl rfl) rfl (by decide) (yr_fcmp (b := 0) rfl (.inr (.inr (.inl rfl))) rfl rfl) ?_
        refine VL.nil ?_
        refine VE.then_wp ?_
        refine V.cond rfl (fun h5 => ?_) (fun h5 => ?_)
        · skip
          refine V.region ?_
          refine VL.r (.inl rfl) rfl (by decide) (yr_move rfl rfl) ?_
          refine VL.r (.inl rfl) rfl (by decide) (yr_float (b := 4607182418800017408) rfl (.inl rfl) rfl rfl) ?_
          refine VL.r (.inl rfl) rfl (by decide) (yr_assign rfl rfl) ?_
          refine VL.nil ?_
          refine VE.then_wp ?_
          refine V.seq ?_
          refine V.region ?_
          refine VL.r (.inl rfl) rfl (by decide) (yr_move rfl rfl) ?_
          refine VL.r (.inl rfl) rfl (by decide) (yr_fcmp (b := 4602678819172646912) rfl (.inr (.inr (.inr (.inr (.inr rfl))))) rfl rfl) ?_
          refine VL.r (.inl rfl) rfl (by decide) (yr_assign rfl rfl) ?_
          refine VL.nil ?_
          refine VE.then_wp ?_
          refine V.seq ?_
          refine V.seq ?_
          refine V.region ?_
          refine VL.r (.inl rfl) rfl (by decide) (yr_move rfl rfl) ?_
          refine VL.nil ?_
          refine VE.then_wp ?_
          refine V.cond rfl (fun h6 => ?_) (fun h6 => ?_)
          · skip
            refine V.region ?_
            refine VL.r (.inl rfl) rfl (by decide) (yr_move rfl rfl) ?_
            refine VL.r (.inl rfl) rfl (by decide) (yr_float (b := 4602678819172646912) rfl (.inr (.inl rfl)) rfl rfl) ?_
            refine VL.r (.inl rfl) rfl (by decide) (yr_assign rfl rfl) ?_
            refine VL.nil ?_
            refine VE.then_wp ?_
            refine V.seq ?_
            refine V.seq ?_
            refine V.region ?_
            refine VL.r (.inl rfl) rfl (by decide) (yr_move rfl rfl) ?_
            refine VL.r (.inl rfl) rfl (by decide) (yr_fcmp (b := 4598175219545276416) rfl (.inr (.inr (.inr (.inr (.inl rfl))))) rfl rfl) ?_
            refine VL.nil ?_
            refine VE.then_wp ?_
            refine V.cond rfl (fun h7 => ?_) (fun h7 => ?_)
            · skip
              refine V.region ?_
              refine VL.r (.inl rfl) rfl (by decide) (yr_move rfl rfl) ?_
              refine VL.r (.inl rfl) rfl (by decide) (yr_float (a := 4602678819172646912) rfl (.inr (.inl rfl)) rfl rfl) ?_
              refine VL.r (.inl rfl) rfl (by decide) (yr_assign rfl rfl) ?_
              refine VL.nil ?_
              refine VE.then_wp ?_
              refine V.seq ?_
              refine V.region ?_
              refine VL.r (.inl rfl) rfl (by decide) (yr_move rfl rfl) ?_
              refine VL.r (.inl rfl) rfl (by decide) (yr_float (b := 4618760256179416344) rfl (.inr (.inr (.inl rfl))) rfl rfl) ?_
              refine VL.r (.inl rfl) rfl (by decide) (yr_assign rfl rfl) ?_
              refine VL.nil ?_
              refine VE.then_wp ?_
              refine V.seq ?_
              refine V.region ?_
              refine VL.r (.inl rfl) rfl (by decide) (yr_move rfl rfl) ?_
              refine VL.r (.inl rfl) rfl (by decide) (yr_move rfl rfl) ?_
              refine VL.r (.inl rfl) rfl (by decide) (yr_float rfl (.inr (.inr (.inl rfl))) rfl rfl) ?_
              refine VL.r (.inl rfl) rfl (by decide) (yr_assign rfl rfl) ?_
              refine VL.nil ?_
              refine VE.then_wp ?_
              refine V.seq ?_
              refine V.region ?_
              refine VL.r (.inl rfl) rfl (by decide) (yr_assign (u := .float .f64 4607182418800017408) rfl rfl) ?_
              refine VL.nil ?_
              refine VE.then_wp ?_
              refine V.seq ?_
              refine V.seq ?_
              refine V.region ?_
              refine VL.r (.inl rfl) rfl (by decide) (yr_assign (u := .int .i64 8) rfl rfl) ?_
              refine VL.nil ?_
              refine VE.then_wp ?_
              refine V.block ?_
              refine V.loopc (G := Nat × Nat) [(4, _), (5, _), (6, _)] (fun ⟨k, y⟩ => k ≤ 8 ∧ True) (fun ⟨k, y⟩ => []) (fun ⟨k, y⟩ => [(7, .float .f64 y), (8, .int .i64 (k : Int))]) (fun ⟨k, y⟩ => k) (8, 4607182418800017408) (.cons rfl (.cons rfl (.cons rfl .nil))) (.cons rfl (.cons rfl .nil)) ?_ ?_ ?_
              · exact (fun w hw => hw.sub (List.nil_sublist _))
              · exact (by exact ⟨Nat.le_refl _, trivial⟩)
              rintro ⟨k, y⟩ ⟨hk, _⟩
              show V _ _ _ [] ([(7, .float .f64 y), (8, .int .i64 (k : Int))] ++ [(4, _), (5, _), (6, _)]) _ _
              refine V.seq ?_
              refine V.seq ?_
              refine V.region ?_
              refine VL.r (.inl rfl) rfl (by decide) (yr_move rfl rfl) ?_
              refine VL.r (.inl rfl) rfl (by decide) (yr_icmp rfl (.inr (.inr (.inr (.inr (.inr rfl))))) rfl rfl) ?_
              refine VL.nil ?_
              refine VE.then_wp ?_
              refine V.cond rfl (fun h8 => ?_) (fun h8 => ?_)
              · skip
                replace h8 := ic_geq h8
                refine V.skip ?_
                refine VE.then_wp ?_
                refine V.seq ?_
                refine V.block ?_
                refine V.region ?_
                refine VL.r (.inl rfl) rfl (by decide) (yr_move rfl rfl) ?_
                refine VL.r (.inl rfl) rfl (by decide) (yr_move rfl rfl) ?_
                refine VL.r (.inl rfl) rfl (by decide) (yr_float rfl (.inr (.inr (.inl rfl))) rfl rfl) ?_
                refine VL.r (.inl rfl) rfl (by decide) (yr_move rfl rfl) ?_
                refine VL.r (.inl rfl) rfl (by decide) (yr_int rfl rfl rfl (.inr (.inr ⟨rfl, wrap_in (by omega)⟩))) ?_
                refine VL.r (.inl rfl) rfl (by decide) (yr_move rfl rfl) ?_
                refine VL.r (.inl rfl) rfl (by decide) (yr_int rfl rfl rfl (.inr (.inr ⟨rfl, wrap_in (by omega)⟩))) ?_
                refine VL.r (.inl rfl) rfl (by decide) (yr_int rfl rfl rfl (.inl ⟨rfl, wrap_in (by omega)⟩)) ?_
                refine VL.r (.inl rfl) rfl (by decide) (yr_mulN (2 * k) (2 * k + 1) rfl rfl rfl (by omega) (by omega) (Nat.le_trans (Nat.mul_le_mul (show 2 * k ≤ 16 by omega) (show 2 * k + 1 ≤ 17 by omega)) (by decide))) ?_
                refine VL.r (.inl rfl) rfl (by decide) (yr_ofInt rfl Tryd.underlying3 Tryd.underlying156 rfl) ?_
                refine VL.r (.inl rfl) rfl (by decide) (yr_float rfl (.inr (.inr (.inr rfl))) rfl rfl) ?_
                refine VL.new (.inl rfl) rfl (by decide) (yn_anyF (yr_float (a := 4607182418800017408) rfl (.inr (.inl rfl)) rfl rfl)) ?_
                intro y58
                refine VL.r (.inl rfl) rfl (by decide) (yr_assign rfl rfl) ?_
                refine VL.nil ?_
                refine VE.block_normal ?_
                refine VE.then_wp ?_
                refine V.region ?_
                refine VL.r (.inl rfl) rfl (by decide) (yr_move rfl rfl) ?_
                refine VL.r (.inl rfl) rfl (by decide) (yr_int rfl rfl rfl (.inr (.inl ⟨rfl, wrap_in (by omega)⟩))) ?_
                refine VL.r (.inl rfl) rfl (by decide) (yr_assign rfl rfl) ?_
                refine VL.nil ?_
                refine VE.round (k - 1, y58) ?_ ?_ ?_ ?_ ?_
                · exact (.cons rfl (.cons (congrArg (fun i => some (Value.int .i64 i)) (by omega)) .nil))
                · exact (.cons rfl (.cons rfl (.cons rfl .nil)))
                · exact (fun w hw => hw.sub (List.nil_sublist _))
                · exact ⟨by omega, trivial⟩
                · (try dsimp only); omega
              · skip
                replace h8 := ic_geq' h8
                refine V.exit ?_
                refine VE.then_exit ?_
                refine VE.then_exit ?_
                refine VE.block_here ?_
                refine VE.then_wp ?_
                refine V.seq ?_
                refine V.seq ?_
                refine V.region ?_
                refine VL.r (.inl rfl) rfl (by decide) (yr_move rfl rfl) ?_
                refine VL.nil ?_
                refine VE.then_wp ?_
                refine V.cond rfl (fun h9 => ?_) (fun h9 => ?_)
                · skip
                  refine V.seq ?_
                  refine V.region ?_
                  refine VL.r (.inl rfl) rfl (by decide) (yr_move rfl rfl) ?_
                  refine VL.r (.inl rfl) rfl (by decide) (yr_move rfl rfl) ?_
                  refine VL.r (.inl rfl) rfl (by decide) (yr_float rfl (.inr (.inr (.inl rfl))) rfl rfl) ?_
                  refine VL.r (.inl rfl) rfl (by decide) (yr_fneg rfl rfl) ?_
                  refine VL.r (.inl rfl) rfl (by decide) (yr_assign rfl rfl) ?_
                  refine VL.nil ?_
                  refine VE.then_wp ?_
                  refine V.ret ?_
                  refine VE.then_ret ?_
                  refine ret1 rfl rfl (fun w1 hw => ?_)
                  exact ⟨_, rfl, hw.below, (fun _ h => by cases h), List.Pairwise.nil⟩
                · skip
                  refine V.skip ?_
                  refine VE.then_wp ?_
                  refine V.seq ?_
                  refine V.region ?_
                  refine VL.r (.inl rfl) rfl (by decide) (yr_move rfl rfl) ?_
                  refine VL.r (.inl rfl) rfl (by decide) (yr_move rfl rfl) ?_
                  refine VL.r (.inl rfl) rfl (by decide) (yr_float rfl (.inr (.inr (.inl rfl))) rfl rfl) ?_
                  refine VL.r (.inl rfl) rfl (by decide) (yr_assign rfl rfl) ?_
                  refine VL.nil ?_
                  refine VE.then_wp ?_
                  refine V.ret ?_
                  refine ret1 rfl rfl (fun w1 hw => ?_)
                  exact ⟨_, rfl, hw.below, (fun _ h => by cases h), List.Pairwise.nil⟩
            · skip
              refine V.skip ?_
              refine VE.then_wp ?_
              refine V.seq ?_
              refine V.region ?_
              refine VL.r (.inl rfl) rfl (by decide) (yr_move rfl rfl) ?_
              refine VL.r (.inl rfl) rfl (by decide) (yr_float (b := 4618760256179416344) rfl (.inr (.inr (.inl rfl))) rfl rfl) ?_
              refine VL.r (.inl rfl) rfl (by decide) (yr_assign rfl rfl) ?_
              refine VL.nil ?_
              refine VE.then_wp ?_
              refine V.seq ?_
              refine V.region ?_
              refine VL.r (.inl rfl) rfl (by decide) (yr_move rfl rfl) ?_
              refine VL.r (.inl rfl) rfl (by decide) (yr_move rfl rfl) ?_
              refine VL.r (.inl rfl) rfl (by decide) (yr_float rfl (.inr (.inr (.inl rfl))) rfl rfl) ?_
              refine VL.r (.inl rfl) rfl (by decide) (yr_assign rfl rfl) ?_
              refine VL.nil ?_
              refine VE.then_wp ?_
              refine V.seq ?_
              refine V.region ?_
              refine VL.r (.inl rfl) rfl (by decide) (yr_assign (u := .float .f64 4607182418800017408) rfl rfl) ?_
              refine VL.nil ?_
              refine VE.then_wp ?_
              refine V.seq ?_
              refine V.seq ?_
              refine V.region ?_
              refine VL.r (.inl rfl) rfl (by decide) (yr_assign (u := .int .i64 8) rfl rfl) ?_
              refine VL.nil ?_
              refine VE.then_wp ?_
              refine V.block ?_
              refine V.loopc (G := Nat × Nat) [(4, _), (5, _), (6, _)] (fun ⟨k, y⟩ => k ≤ 8 ∧ True) (fun ⟨k, y⟩ => []) (fun ⟨k, y⟩ => [(7, .float .f64 y), (8, .int .i64 (k : Int))]) (fun ⟨k, y⟩ => k) (8, 4607182418800017408) (.cons rfl (.cons rfl (.cons rfl .nil))) (.cons rfl (.cons rfl .nil)) ?_ ?_ ?_
              · exact (fun w hw => hw.sub (List.nil_sublist _))
              · exact (by exact ⟨Nat.le_refl _, trivial⟩)
              rintro ⟨k, y⟩ ⟨hk, _⟩
              show V _ _ _ [] ([(7, .float .f64 y), (8, .int .i64 (k : Int))] ++ [(4, _), (5, _), (6, _)]) _ _
              refine V.seq ?_
              refine V.seq ?_
              refine V.region ?_
              refine VL.r (.inl rfl) rfl (by decide) (yr_move rfl rfl) ?_
              refine VL.r (.inl rfl) rfl (by decide) (yr_icmp rfl (.inr (.inr (.inr (.inr (.inr rfl))))) rfl rfl) ?_
              refine VL.nil ?_
              refine VE.then_wp ?_
              refine V.cond rfl (fun h10 => ?_) (fun h10 => ?_)
              · skip
                replace h10 := ic_geq h10
                refine V.skip ?_
                refine VE.then_wp ?_
                refine V.seq ?_
                refine V.block ?_
                refine V.region ?_
                refine VL.r (.inl rfl) rfl (by decide) (yr_move rfl rfl) ?_
                refine VL.r (.inl rfl) rfl (by decide) (yr_move rfl rfl) ?_
                refine VL.r (.inl rfl) rfl (by decide) (yr_float rfl (.inr (.inr (.inl rfl))) rfl rfl) ?_
                refine VL.r (.inl rfl) rfl (by decide) (yr_move rfl rfl) ?_
                refine VL.r (.inl rfl) rfl (by decide) (yr_int rfl rfl rfl (.inr (.inr ⟨rfl, wrap_in (by omega)⟩))) ?_
                refine VL.r (.inl rfl) rfl (by decide) (yr_move rfl rfl) ?_
                refine VL.r (.inl rfl) rfl (by decide) (yr_int rfl rfl rfl (.inr (.inr ⟨rfl, wrap_in (by omega)⟩))) ?_
                refine VL.r (.inl rfl) rfl (by decide) (yr_int rfl rfl rfl (.inl ⟨rfl, wrap_in (by omega)⟩)) ?_
                refine VL.r (.inl rfl) rfl (by decide) (yr_mulN (2 * k) (2 * k + 1) rfl rfl rfl (by omega) (by omega) (Nat.le_trans (Nat.mul_le_mul (show 2 * k ≤ 16 by omega) (show 2 * k + 1 ≤ 17 by omega)) (by decide))) ?_
                refine VL.r (.inl rfl) rfl (by decide) (yr_ofInt rfl Tryd.underlying3 Tryd.underlying156 rfl) ?_
                refine VL.r (.inl rfl) rfl (by decide) (yr_float rfl (.inr (.inr (.inr rfl))) rfl rfl) ?_
                refine VL.new (.inl rfl) rfl (by decide) (yn_anyF (yr_float (a := 4607182418800017408) rfl (.inr (.inl rfl)) rfl rfl)) ?_
                intro y58
                refine VL.r (.inl rfl) rfl (by decide) (yr_assign rfl rfl) ?_
                refine VL.nil ?_
                refine VE.block_normal ?_
                refine VE.then_wp ?_
                refine V.region ?_
                refine VL.r (.inl rfl) rfl (by decide) (yr_move rfl rfl) ?_
                refine VL.r (.inl rfl) rfl (by decide) (yr_int rfl rfl rfl (.inr (.inl ⟨rfl, wrap_in (by omega)⟩))) ?_
                refine VL.r (.inl rfl) rfl (by decide) (yr_assign rfl rfl) ?_
                refine VL.nil ?_
                refine VE.round (k - 1, y58) ?_ ?_ ?_ ?_ ?_
                · exact (.cons rfl (.cons (congrArg (fun i => some (Value.int .i64 i)) (by omega)) .nil))
                · exact (.cons rfl (.cons rfl (.cons rfl .nil)))
                · exact (fun w hw => hw.sub (List.nil_sublist _))
                · exact ⟨by omega, trivial⟩
                · (try dsimp only); omega
              · skip
                replace h10 := ic_geq' h10
                refine V.exit ?_
                refine VE.then_exit ?_
                refine VE.then_exit ?_
                refine VE.block_here ?_
                refine VE.then_wp ?_
                refine V.seq ?_
                refine V.seq ?_
                refine V.region ?_
                refine VL.r (.inl rfl) rfl (by decide) (yr_move rfl rfl) ?_
                refine VL.nil ?_
                refine VE.then_wp ?_
                refine V.cond rfl (fun h11 => ?_) (fun h11 => ?_)
                · skip
                  refine V.seq ?_
                  refine V.region ?_
                  refine VL.r (.inl rfl) rfl (by decide) (yr_move rfl rfl) ?_
                  refine VL.r (.inl rfl) rfl (by decide) (yr_move rfl rfl) ?_
                  refine VL.r (.inl rfl) rfl (by decide) (yr_float rfl (.inr (.inr (.inl rfl))) rfl rfl) ?_
                  refine VL.r (.inl rfl) rfl (by decide) (yr_fneg rfl rfl) ?_
                  refine VL.r (.inl rfl) rfl (by decide) (yr_assign rfl rfl) ?_
                  refine VL.nil ?_
                  refine VE.then_wp ?_
                  refine V.ret ?_
                  refine VE.then_ret ?_
                  refine ret1 rfl rfl (fun w1 hw => ?_)
                  exact ⟨_, rfl, hw.below, (fun _ h => by cases h), List.Pairwise.nil⟩
                · skip
                  refine V.skip ?_
                  refine VE.then_wp ?_
                  refine V.seq ?_
                  refine V.region ?_
                  refine VL.r (.inl rfl) rfl (by decide) (yr_move rfl rfl) ?_
                  refine VL.r (.inl rfl) rfl (by decide) (yr_move rfl rfl) ?_
                  refine VL.r (.inl rfl) rfl (by decide) (yr_float rfl (.inr (.inr (.inl rfl))) rfl rfl) ?_
                  refine VL.r (.inl rfl) rfl (by decide) (yr_assign rfl rfl) ?_
                  refine VL.nil ?_
                  refine VE.then_wp ?_
                  refine V.ret ?_
                  refine ret1 rfl rfl (fun w1 hw => ?_)
                  exact ⟨_, rfl, hw.below, (fun _ h => by cases h), List.Pairwise.nil⟩
          · skip
            refine V.skip ?_
            refine VE.then_wp ?_
            refine V.seq ?_
            refine V.seq ?_
            refine V.region ?_
            refine VL.r (.inl rfl) rfl (by decide) (yr_move rfl rfl) ?_
            refine VL.r (.inl rfl) rfl (by decide) (yr_fcmp (b := 4598175219545276416) rfl (.inr (.inr (.inr (.inr (.inl rfl))))) rfl rfl) ?_
            refine VL.nil ?_
            refine VE.then_wp ?_
            refine V.cond rfl (fun h12 => ?_) (fun h12 => ?_)
            · skip
              refine V.region ?_
              refine VL.r (.inl rfl) rfl (by decide) (yr_move rfl rfl) ?_
              refine VL.r (.inl rfl) rfl (by decide) (yr_float (a := 4602678819172646912) rfl (.inr (.inl rfl)) rfl rfl) ?_
              refine VL.r (.inl rfl) rfl (by decide) (yr_assign rfl rfl) ?_
              refine VL.nil ?_
              refine VE.then_wp ?_
              refine V.seq ?_
              refine V.region ?_
              refine VL.r (.inl rfl) rfl (by decide) (yr_move rfl rfl) ?_
              refine VL.r (.inl rfl) rfl (by decide) (yr_float (b := 4618760256179416344) rfl (.inr (.inr (.inl rfl))) rfl rfl) ?_
              refine VL.r (.inl rfl) rfl (by decide) (yr_assign rfl rfl) ?_
              refine VL.nil ?_
              refine VE.then_wp ?_
              refine V.seq ?_
              refine V.region ?_
              refine VL.r (.inl rfl) rfl (by decide) (yr_move rfl rfl) ?_
              refine VL.r (.inl rfl) rfl (by decide) (yr_move rfl rfl) ?_
              refine VL.r (.inl rfl) rfl (by decide) (yr_float rfl (.inr (.inr (.inl rfl))) rfl rfl) ?_
              refine VL.r (.inl rfl) rfl (by decide) (yr_assign rfl rfl) ?_
              refine VL.nil ?_
              refine VE.then_wp ?_
              refine V.seq ?_
              refine V.region ?_
              refine VL.r (.inl rfl) rfl (by decide) (yr_assign (u := .float .f64 4607182418800017408) rfl rfl) ?_
              refine VL.nil ?_
              refine VE.then_wp ?_
              refine V.seq ?_
              refine V.seq ?_
              refine V.region ?_
              refine VL.r (.inl rfl) rfl (by decide) (yr_assign (u := .int .i64 8) rfl rfl) ?_
              refine VL.nil ?_
              refine VE.then_wp ?_
              refine V.block ?_
              refine V.loopc (G := Nat × Nat) [(4, _), (5, _), (6, _)] (fun ⟨k, y⟩ => k ≤ 8 ∧ True) (fun ⟨k, y⟩ => []) (fun ⟨k, y⟩ => [(7, .float .f64 y), (8, .int .i64 (k : Int))]) (fun ⟨k, y⟩ => k) (8, 4607182418800017408) (.cons rfl (.cons rfl (.cons rfl .nil))) (.cons rfl (.cons rfl .nil)) ?_ ?_ ?_
              · exact (fun w hw => hw.sub (List.nil_sublist _))
              · exact (by exact ⟨Nat.le_refl _, trivial⟩)
              rintro ⟨k, y⟩ ⟨hk, _⟩
              show V _ _ _ [] ([(7, .float .f64 y), (8, .int .i64 (k : Int))] ++ [(4, _), (5, _), (6, _)]) _ _
              refine V.seq ?_
              refine V.seq ?_
              refine V.region ?_
              refine VL.r (.inl rfl) rfl (by decide) (yr_move rfl rfl) ?_
              refine VL.r (.inl rfl) rfl (by decide) (yr_icmp rfl (.inr (.inr (.inr (.inr (.inr rfl))))) rfl rfl) ?_
              refine VL.nil ?_
              refine VE.then_wp ?_
              refine V.cond rfl (fun h13 => ?_) (fun h13 => ?_)
              · skip
                replace h13 := ic_geq h13
                refine V.skip ?_
                refine VE.then_wp ?_
                refine V.seq ?_
                refine V.block ?_
                refine V.region ?_
                refine VL.r (.inl rfl) rfl (by decide) (yr_move rfl rfl) ?_
                refine VL.r (.inl rfl) rfl (by decide) (yr_move rfl rfl) ?_
                refine VL.r (.inl rfl) rfl (by decide) (yr_float rfl (.inr (.inr (.inl rfl))) rfl rfl) ?_
                refine VL.r (.inl rfl) rfl (by decide) (yr_move rfl rfl) ?_
                refine VL.r (.inl rfl) rfl (by decide) (yr_int rfl rfl rfl (.inr (.inr ⟨rfl, wrap_in (by omega)⟩))) ?_
                refine VL.r (.inl rfl) rfl (by decide) (yr_move rfl rfl) ?_
                refine VL.r (.inl rfl) rfl (by decide) (yr_int rfl rfl rfl (.inr (.inr ⟨rfl, wrap_in (by omega)⟩))) ?_
                refine VL.r (.inl rfl) rfl (by decide) (yr_int rfl rfl rfl (.inl ⟨rfl, wrap_in (by omega)⟩)) ?_
                refine VL.r (.inl rfl) rfl (by decide) (yr_mulN (2 * k) (2 * k + 1) rfl rfl rfl (by omega) (by omega) (Nat.le_trans (Nat.mul_le_mul (show 2 * k ≤ 16 by omega) (show 2 * k + 1 ≤ 17 by omega)) (by decide))) ?_
                refine VL.r (.inl rfl) rfl (by decide) (yr_ofInt rfl Tryd.underlying3 Tryd.underlying156 rfl) ?_
                refine VL.r (.inl rfl) rfl (by decide) (yr_float rfl (.inr (.inr (.inr rfl))) rfl rfl) ?_
                refine VL.new (.inl rfl) rfl (by decide) (yn_anyF (yr_float (a := 4607182418800017408) rfl (.inr (.inl rfl)) rfl rfl)) ?_
                intro y58
                refine VL.r (.inl rfl) rfl (by decide) (yr_assign rfl rfl) ?_
                refine VL.nil ?_
                refine VE.block_normal ?_
                refine VE.then_wp ?_
                refine V.region ?_
                refine VL.r (.inl rfl) rfl (by decide) (yr_move rfl rfl) ?_
                refine VL.r (.inl rfl) rfl (by decide) (yr_int rfl rfl rfl (.inr (.inl ⟨rfl, wrap_in (by omega)⟩))) ?_
                refine VL.r (.inl rfl) rfl (by decide) (yr_assign rfl rfl) ?_
                refine VL.nil ?_
                refine VE.round (k - 1, y58) ?_ ?_ ?_ ?_ ?_
                · exact (.cons rfl (.cons (congrArg (fun i => some (Value.int .i64 i)) (by omega)) .nil))
                · exact (.cons rfl (.cons rfl (.cons rfl .nil)))
                · exact (fun w hw => hw.sub (List.nil_sublist _))
                · exact ⟨by omega, trivial⟩
                · (try dsimp only); omega
              · skip
                replace h13 := ic_geq' h13
                refine V.exit ?_
                refine VE.then_exit ?_
                refine VE.then_exit ?_
                refine VE.block_here ?_
                refine VE.then_wp ?_
                refine V.seq ?_
                refine V.seq ?_
                refine V.region ?_
                refine VL.r (.inl rfl) rfl (by decide) (yr_move rfl rfl) ?_
                refine VL.nil ?_
                refine VE.then_wp ?_
                refine V.cond rfl (fun h14 => ?_) (fun h14 => ?_)
                · skip
                  refine V.seq ?_
                  refine V.region ?_
                  refine VL.r (.inl rfl) rfl (by decide) (yr_move rfl rfl) ?_
                  refine VL.r (.inl rfl) rfl (by decide) (yr_move rfl rfl) ?_
                  refine VL.r (.inl rfl) rfl (by decide) (yr_float rfl (.inr (.inr (.inl rfl))) rfl rfl) ?_
                  refine VL.r (.inl rfl) rfl (by decide) (yr_fneg rfl rfl) ?_
                  refine VL.r (.inl rfl) rfl (by decide) (yr_assign rfl rfl) ?_
                  refine VL.nil ?_
                  refine VE.then_wp ?_
                  refine V.ret ?_
                  refine VE.then_ret ?_
                  refine ret1 rfl rfl (fun w1 hw => ?_)
                  exact ⟨_, rfl, hw.below, (fun _ h => by cases h), List.Pairwise.nil⟩
                · skip
                  refine V.skip ?_
                  refine VE.then_wp ?_
                  refine V.seq ?_
                  refine V.region ?_
                  refine VL.r (.inl rfl) rfl (by decide) (yr_move rfl rfl) ?_
                  refine VL.r (.inl rfl) rfl (by decide) (yr_move rfl rfl) ?_
                  refine VL.r (.inl rfl) rfl (by decide) (yr_float rfl (.inr (.inr (.inl rfl))) rfl rfl) ?_
                  refine VL.r (.inl rfl) rfl (by decide) (yr_assign rfl rfl) ?_
                  refine VL.nil ?_
                  refine VE.then_wp ?_
                  refine V.ret ?_
                  refine ret1 rfl rfl (fun w1 hw => ?_)
                  exact ⟨_, rfl, hw.below, (fun _ h => by cases h), List.Pairwise.nil⟩
            · skip
              refine V.skip ?_
              refine VE.then_wp ?_
              refine V.seq ?_
              refine V.region ?_
              refine VL.r (.inl rfl) rfl (by decide) (yr_move rfl rfl) ?_
              refine VL.r (.inl rfl) rfl (by decide) (yr_float (b := 4618760256179416344) rfl (.inr (.inr (.inl rfl))) rfl rfl) ?_
              refine VL.r (.inl rfl) rfl (by decide) (yr_assign rfl rfl) ?_
              refine VL.nil ?_
              refine VE.then_wp ?_
              refine V.seq ?_
              refine V.region ?_
              refine VL.r (.inl rfl) rfl (by decide) (yr_move rfl rfl) ?_
              refine VL.r (.inl rfl) rfl (by decide) (yr_move rfl rfl) ?_
              refine VL.r (.inl rfl) rfl (by decide) (yr_float rfl (.inr (.inr (.inl rfl))) rfl rfl) ?_
              refine VL.r (.inl rfl) rfl (by decide) (yr_assign rfl rfl) ?_
              refine VL.nil ?_
              refine VE.then_wp ?_
              refine V.seq ?_
              refine V.region ?_
              refine VL.r (.inl rfl) rfl (by decide) (yr_assign (u := .float .f64 4607182418800017408) rfl rfl) ?_
              refine VL.nil ?_
              refine VE.then_wp ?_
              refine V.seq ?_
              refine V.seq ?_
              refine V.region ?_
              refine VL.r (.inl rfl) rfl (by decide) (yr_assign (u := .int .i64 8) rfl rfl) ?_
              refine VL.nil ?_
              refine VE.then_wp ?_
              refine V.block ?_
              refine V.loopc (G := Nat × Nat) [(4, _), (5, _), (6, _)] (fun ⟨k, y⟩ => k ≤ 8 ∧ True) (fun ⟨k, y⟩ => []) (fun ⟨k, y⟩ => [(7, .float .f64 y), (8, .int .i64 (k : Int))]) (fun ⟨k, y⟩ => k) (8, 4607182418800017408) (.cons rfl (.cons rfl (.cons rfl .nil))) (.cons rfl (.cons rfl .nil)) ?_ ?_ ?_
              · exact (fun w hw => hw.sub (List.nil_sublist _))
              · exact (by exact ⟨Nat.le_refl _, trivial⟩)
              rintro ⟨k, y⟩ ⟨hk, _⟩
              show V _ _ _ [] ([(7, .float .f64 y), (8, .int .i64 (k : Int))] ++ [(4, _), (5, _), (6, _)]) _ _
              refine V.seq ?_
              refine V.seq ?_
              refine V.region ?_
              refine VL.r (.inl rfl) rfl (by decide) (yr_move rfl rfl) ?_
              refine VL.r (.inl rfl) rfl (by decide) (yr_icmp rfl (.inr (.inr (.inr (.inr (.inr rfl))))) rfl rfl) ?_
              refine VL.nil ?_
              refine VE.then_wp ?_
              refine V.cond rfl (fun h15 => ?_) (fun h15 => ?_)
              · skip
                replace h15 := ic_geq h15
                refine V.skip ?_
                refine VE.then_wp ?_
                refine V.seq ?_
                refine V.block ?_
                refine V.region ?_
                refine VL.r (.inl rfl) rfl (by decide) (yr_move rfl rfl) ?_
                refine VL.r (.inl rfl) rfl (by decide) (yr_move rfl rfl) ?_
                refine VL.r (.inl rfl) rfl (by decide) (yr_float rfl (.inr (.inr (.inl rfl))) rfl rfl) ?_
                refine VL.r (.inl rfl) rfl (by decide) (yr_move rfl rfl) ?_
                refine VL.r (.inl rfl) rfl (by decide) (yr_int rfl rfl rfl (.inr (.inr ⟨rfl, wrap_in (by omega)⟩))) ?_
                refine VL.r (.inl rfl) rfl (by decide) (yr_move rfl rfl) ?_
                refine VL.r (.inl rfl) rfl (by decide) (yr_int rfl rfl rfl (.inr (.inr ⟨rfl, wrap_in (by omega)⟩))) ?_
                refine VL.r (.inl rfl) rfl (by decide) (yr_int rfl rfl rfl (.inl ⟨rfl, wrap_in (by omega)⟩)) ?_
                refine VL.r (.inl rfl) rfl (by decide) (yr_mulN (2 * k) (2 * k + 1) rfl rfl rfl (by omega) (by omega) (Nat.le_trans (Nat.mul_le_mul (show 2 * k ≤ 16 by omega) (show 2 * k + 1 ≤ 17 by omega)) (by decide))) ?_
                refine VL.r (.inl rfl) rfl (by decide) (yr_ofInt rfl Tryd.underlying3 Tryd.underlying156 rfl) ?_
                refine VL.r (.inl rfl) rfl (by decide) (yr_float rfl (.inr (.inr (.inr rfl))) rfl rfl) ?_
                refine VL.new (.inl rfl) rfl (by decide) (yn_anyF (yr_float (a := 4607182418800017408) rfl (.inr (.inl rfl)) rfl rfl)) ?_
                intro y58
                refine VL.r (.inl rfl) rfl (by decide) (yr_assign rfl rfl) ?_
                refine VL.nil ?_
                refine VE.block_normal ?_
                refine VE.then_wp ?_
                refine V.region ?_
                refine VL.r (.inl rfl) rfl (by decide) (yr_move rfl rfl) ?_
                refine VL.r (.inl rfl) rfl (by decide) (yr_int rfl rfl rfl (.inr (.inl ⟨rfl, wrap_in (by omega)⟩))) ?_
                refine VL.r (.inl rfl) rfl (by decide) (yr_assign rfl rfl) ?_
                refine VL.nil ?_
                refine VE.round (k - 1, y58) ?_ ?_ ?_ ?_ ?_
                · exact (.cons rfl (.cons (congrArg (fun i => some (Value.int .i64 i)) (by omega)) .nil))
                · exact (.cons rfl (.cons rfl (.cons rfl .nil)))
                · exact (fun w hw => hw.sub (List.nil_sublist _))
                · exact ⟨by omega, trivial⟩
                · (try dsimp only); omega
              · skip
                replace h15 := ic_geq' h15
                refine V.exit ?_
                refine VE.then_exit ?_
                refine VE.then_exit ?_
                refine VE.block_here ?_
                refine VE.then_wp ?_
                refine V.seq ?_
                refine V.seq ?_
                refine V.region ?_
                refine VL.r (.inl rfl) rfl (by decide) (yr_move rfl rfl) ?_
                refine VL.nil ?_
                refine VE.then_wp ?_
                refine V.cond rfl (fun h16 => ?_) (fun h16 => ?_)
                · skip
                  refine V.seq ?_
                  refine V.region ?_
                  refine VL.r (.inl rfl) rfl (by decide) (yr_move rfl rfl) ?_
                  refine VL.r (.inl rfl) rfl (by decide) (yr_move rfl rfl) ?_
                  refine VL.r (.inl rfl) rfl (by decide) (yr_float rfl (.inr (.inr (.inl rfl))) rfl rfl) ?_
                  refine VL.r (.inl rfl) rfl (by decide) (yr_fneg rfl rfl) ?_
                  refine VL.r (.inl rfl) rfl (by decide) (yr_assign rfl rfl) ?_
                  refine VL.nil ?_
                  refine VE.then_wp ?_
                  refine V.ret ?_
                  refine VE.then_ret ?_
                  refine ret1 rfl rfl (fun w1 hw => ?_)
                  exact ⟨_, rfl, hw.below, (fun _ h => by cases h), List.Pairwise.nil⟩
                · skip
                  refine V.skip ?_
                  refine VE.then_wp ?_
                  refine V.seq ?_
                  refine V.region ?_
                  refine VL.r (.inl rfl) rfl (by decide) (yr_move rfl rfl) ?_
                  refine VL.r (.inl rfl) rfl (by decide) (yr_move rfl rfl) ?_
                  refine VL.r (.inl rfl) rfl (by decide) (yr_float rfl (.inr (.inr (.inl rfl))) rfl rfl) ?_
                  refine VL.r (.inl rfl) rfl (by decide) (yr_assign rfl rfl) ?_
                  refine VL.nil ?_
                  refine VE.then_wp ?_
                  refine V.ret ?_
                  refine ret1 rfl rfl (fun w1 hw => ?_)
                  exact ⟨_, rfl, hw.below, (fun _ h => by cases h), List.Pairwise.nil⟩
        · skip
          refine V.skip ?_
          refine VE.then_wp ?_
          refine V.seq ?_
          refine V.region ?_
          refine VL.r (.inl rfl) rfl (by decide) (yr_move rfl rfl) ?_
          refine VL.r (.inl rfl) rfl (by decide) (yr_fcmp (b := 4602678819172646912) rfl (.inr (.inr (.inr (.inr (.inr rfl))))) rfl rfl) ?_
          refine VL.r (.inl rfl) rfl (by decide) (yr_assign rfl rfl) ?_
          refine VL.nil ?_
          refine VE.then_wp ?_
          refine V.seq ?_
          refine V.seq ?_
          refine V.region ?_
          refine VL.r (.inl rfl) rfl (by decide) (yr_move rfl rfl) ?_
          refine VL.nil ?_
          refine VE.then_wp ?_
          refine V.cond rfl (fun h17 => ?_) (fun h17 => ?_)
          · skip
            refine V.region ?_
            refine VL.r (.inl rfl) rfl (by decide) (yr_move rfl rfl) ?_
            refine VL.r (.inl rfl) rfl (by decide) (yr_float (b := 4602678819172646912) rfl (.inr (.inl rfl)) rfl rfl) ?_
            refine VL.r (.inl rfl) rfl (by decide) (yr_assign rfl rfl) ?_
            refine VL.nil ?_
            refine VE.then_wp ?_
            refine V.seq ?_
            refine V.seq ?_
            refine V.region ?_
            refine VL.r (.inl rfl) rfl (by decide) (yr_move rfl rfl) ?_
            refine VL.r (.inl rfl) rfl (by decide) (yr_fcmp (b := 4598175219545276416) rfl (.inr (.inr (.inr (.inr (.inl rfl))))) rfl rfl) ?_
            refine VL.nil ?_
            refine VE.then_wp ?_
            refine V.cond rfl (fun h18 => ?_) (fun h18 => ?_)
            · skip
              refine V.region ?_
              refine VL.r (.inl rfl) rfl (by decide) (yr_move rfl rfl) ?_
              refine VL.r (.inl rfl) rfl (by decide) (yr_float (a := 4602678819172646912) rfl (.inr (.inl rfl)) rfl rfl) ?_
              refine VL.r (.inl rfl) rfl (by decide) (yr_assign rfl rfl) ?_
              refine VL.nil ?_
              refine VE.then_wp ?_
              refine V.seq ?_
              refine V.region ?_
              refine VL.r (.inl rfl) rfl (by decide) (yr_move rfl rfl) ?_
              refine VL.r (.inl rfl) rfl (by decide) (yr_float (b := 4618760256179416344) rfl (.inr (.inr (.inl rfl))) rfl rfl) ?_
              refine VL.r (.inl rfl) rfl (by decide) (yr_assign rfl rfl) ?_
              refine VL.nil ?_
              refine VE.then_wp ?_
              refine V.seq ?_
              refine V.region ?_
              refine VL.r (.inl rfl) rfl (by decide) (yr_move rfl rfl) ?_
              refine VL.r (.inl rfl) rfl (by decide) (yr_move rfl rfl) ?_
              refine VL.r (.inl rfl) rfl (by decide) (yr_float rfl (.inr (.inr (.inl rfl))) rfl rfl) ?_
              refine VL.r (.inl rfl) rfl (by decide) (yr_assign rfl rfl) ?_
              refine VL.nil ?_
              refine VE.then_wp ?_
              refine V.seq ?_
              refine V.region ?_
              refine VL.r (.inl rfl) rfl (by decide) (yr_assign (u := .float .f64 4607182418800017408) rfl rfl) ?_
              refine VL.nil ?_
              refine VE.then_wp ?_
              refine V.seq ?_
              refine V.seq ?_
              refine V.region ?_
              refine VL.r (.inl rfl) rfl (by decide) (yr_assign (u := .int .i64 8) rfl rfl) ?_
              refine VL.nil ?_
              refine VE.then_wp ?_
              refine V.block ?_
              refine V.loopc (G := Nat × Nat) [(4, _), (5, _), (6, _)] (fun ⟨k, y⟩ => k ≤ 8 ∧ True) (fun ⟨k, y⟩ => []) (fun ⟨k, y⟩ => [(7, .float .f64 y), (8, .int .i64 (k : Int))]) (fun ⟨k, y⟩ => k) (8, 4607182418800017408) (.cons rfl (.cons rfl (.cons rfl .nil))) (.cons rfl (.cons rfl .nil)) ?_ ?_ ?_
              · exact (fun w hw => hw.sub (List.nil_sublist _))
              · exact (by exact ⟨Nat.le_refl _, trivial⟩)
              rintro ⟨k, y⟩ ⟨hk, _⟩
              show V _ _ _ [] ([(7, .float .f64 y), (8, .int .i64 (k : Int))] ++ [(4, _), (5, _), (6, _)]) _ _
              refine V.seq ?_
              refine V.seq ?_
              refine V.region ?_
              refine VL.r (.inl rfl) rfl (by decide) (yr_move rfl rfl) ?_
              refine VL.r (.inl rfl) rfl (by decide) (yr_icmp rfl (.inr (.inr (.inr (.inr (.inr rfl))))) rfl rfl) ?_
              refine VL.nil ?_
              refine VE.then_wp ?_
              refine V.cond rfl (fun h19 => ?_) (fun h19 => ?_)
              · skip
                replace h19 := ic_geq h19
                refine V.skip ?_
                refine VE.then_wp ?_
                refine V.seq ?_
                refine V.block ?_
                refine V.region ?_
                refine VL.r (.inl rfl) rfl (by decide) (yr_move rfl rfl) ?_
                refine VL.r (.inl rfl) rfl (by decide) (yr_move rfl rfl) ?_
                refine VL.r (.inl rfl) rfl (by decide) (yr_float rfl (.inr (.inr (.inl rfl))) rfl rfl) ?_
                refine VL.r (.inl rfl) rfl (by decide) (yr_move rfl rfl) ?_
                refine VL.r (.inl rfl) rfl (by decide) (yr_int rfl rfl rfl (.inr (.inr ⟨rfl, wrap_in (by omega)⟩))) ?_
                refine VL.r (.inl rfl) rfl (by decide) (yr_move rfl rfl) ?_
                refine VL.r (.inl rfl) rfl (by decide) (yr_int rfl rfl rfl (.inr (.inr ⟨rfl, wrap_in (by omega)⟩))) ?_
                refine VL.r (.inl rfl) rfl (by decide) (yr_int rfl rfl rfl (.inl ⟨rfl, wrap_in (by omega)⟩)) ?_
                refine VL.r (.inl rfl) rfl (by decide) (yr_mulN (2 * k) (2 * k + 1) rfl rfl rfl (by omega) (by omega) (Nat.le_trans (Nat.mul_le_mul (show 2 * k ≤ 16 by omega) (show 2 * k + 1 ≤ 17 by omega)) (by decide))) ?_
                refine VL.r (.inl rfl) rfl (by decide) (yr_ofInt rfl Tryd.underlying3 Tryd.underlying156 rfl) ?_
                refine VL.r (.inl rfl) rfl (by decide) (yr_float rfl (.inr (.inr (.inr rfl))) rfl rfl) ?_
                refine VL.new (.inl rfl) rfl (by decide) (yn_anyF (yr_float (a := 4607182418800017408) rfl (.inr (.inl rfl)) rfl rfl)) ?_
                intro y58
                refine VL.r (.inl rfl) rfl (by decide) (yr_assign rfl rfl) ?_
                refine VL.nil ?_
                refine VE.block_normal ?_
                refine VE.then_wp ?_
                refine V.region ?_
                refine VL.r (.inl rfl) rfl (by decide) (yr_move rfl rfl) ?_
                refine VL.r (.inl rfl) rfl (by decide) (yr_int rfl rfl rfl (.inr (.inl ⟨rfl, wrap_in (by omega)⟩))) ?_
                refine VL.r (.inl rfl) rfl (by decide) (yr_assign rfl rfl) ?_
                refine VL.nil ?_
                refine VE.round (k - 1, y58) ?_ ?_ ?_ ?_ ?_
                · exact (.cons rfl (.cons (congrArg (fun i => some (Value.int .i64 i)) (by omega)) .nil))
                · exact (.cons rfl (.cons rfl (.cons rfl .nil)))
                · exact (fun w hw => hw.sub (List.nil_sublist _))
                · exact ⟨by omega, trivial⟩
                · (try dsimp only); omega
              · skip
                replace h19 := ic_geq' h19
                refine V.exit ?_
                refine VE.then_exit ?_
                refine VE.then_exit ?_
                refine VE.block_here ?_
                refine VE.then_wp ?_
                refine V.seq ?_
                refine V.seq ?_
                refine V.region ?_
                refine VL.r (.inl rfl) rfl (by decide) (yr_move rfl rfl) ?_
                refine VL.nil ?_
                refine VE.then_wp ?_
                refine V.cond rfl (fun h20 => ?_) (fun h20 => ?_)
                · skip
                  refine V.seq ?_
                  refine V.region ?_
                  refine VL.r (.inl rfl) rfl (by decide) (yr_move rfl rfl) ?_
                  refine VL.r (.inl rfl) rfl (by decide) (yr_move rfl rfl) ?_
                  refine VL.r (.inl rfl) rfl (by decide) (yr_float rfl (.inr (.inr (.inl rfl))) rfl rfl) ?_
                  refine VL.r (.inl rfl) rfl (by decide) (yr_fneg rfl rfl) ?_
                  refine VL.r (.inl rfl) rfl (by decide) (yr_assign rfl rfl) ?_
                  refine VL.nil ?_
                  refine VE.then_wp ?_
                  refine V.ret ?_
                  refine VE.then_ret ?_
                  refine ret1 rfl rfl (fun w1 hw => ?_)
                  exact ⟨_, rfl, hw.below, (fun _ h => by cases h), List.Pairwise.nil⟩
                · skip
                  refine V.skip ?_
                  refine VE.then_wp ?_
                  refine V.seq ?_
                  refine V.region ?_
                  refine VL.r (.inl rfl) rfl (by decide) (yr_move rfl rfl) ?_
                  refine VL.r (.inl rfl) rfl (by decide) (yr_move rfl rfl) ?_
                  refine VL.r (.inl rfl) rfl (by decide) (yr_float rfl (.inr (.inr (.inl rfl))) rfl rfl) ?_
                  refine VL.r (.inl rfl) rfl (by decide) (yr_assign rfl rfl) ?_
                  refine VL.nil ?_
                  refine VE.then_wp ?_
                  refine V.ret ?_
                  refine ret1 rfl rfl (fun w1 hw => ?_)
                  exact ⟨_, rfl, hw.below, (fun _ h => by cases h), List.Pairwise.nil⟩
            · skip
              refine V.skip ?_
              refine VE.then_wp ?_
              refine V.seq ?_
              refine V.region ?_
              refine VL.r (.inl rfl) rfl (by decide) (yr_move rfl rfl) ?_
              refine VL.r (.inl rfl) rfl (by decide) (yr_float (b := 4618760256179416344) rfl (.inr (.inr (.inl rfl))) rfl rfl) ?_
              refine VL.r (.inl rfl) rfl (by decide) (yr_assign rfl rfl) ?_
              refine VL.nil ?_
              refine VE.then_wp ?_
              refine V.seq ?_
              refine V.region ?_
              refine VL.r (.inl rfl) rfl (by decide) (yr_move rfl rfl) ?_
              refine VL.r (.inl rfl) rfl (by decide) (yr_move rfl rfl) ?_
              refine VL.r (.inl rfl) rfl (by decide) (yr_float rfl (.inr (.inr (.inl rfl))) rfl rfl) ?_
              refine VL.r (.inl rfl) rfl (by decide) (yr_assign rfl rfl) ?_
              refine VL.nil ?_
              refine VE.then_wp ?_
              refine V.seq ?_
              refine V.region ?_
              refine VL.r (.inl rfl) rfl (by decide) (yr_assign (u := .float .f64 4607182418800017408) rfl rfl) ?_
              refine VL.nil ?_
              refine VE.then_wp ?_
              refine V.seq ?_
              refine V.seq ?_
              refine V.region ?_
              refine VL.r (.inl rfl) rfl (by decide) (yr_assign (u := .int .i64 8) rfl rfl) ?_
              refine VL.nil ?_
              refine VE.then_wp ?_
              refine V.block ?_
              refine V.loopc (G := Nat × Nat) [(4, _), (5, _), (6, _)] (fun ⟨k, y⟩ => k ≤ 8 ∧ True) (fun ⟨k, y⟩ => []) (fun ⟨k, y⟩ => [(7, .float .f64 y), (8, .int .i64 (k : Int))]) (fun ⟨k, y⟩ => k) (8, 4607182418800017408) (.cons rfl (.cons rfl (.cons rfl .nil))) (.cons rfl (.cons rfl .nil)) ?_ ?_ ?_
              · exact (fun w hw => hw.sub (List.nil_sublist _))
              · exact (by exact ⟨Nat.le_refl _, trivial⟩)
              rintro ⟨k, y⟩ ⟨hk, _⟩
              show V _ _ _ [] ([(7, .float .f64 y), (8, .int .i64 (k : Int))] ++ [(4, _), (5, _), (6, _)]) _ _
              refine V.seq ?_
              refine V.seq ?_
              refine V.region ?_
              refine VL.r (.inl rfl) rfl (by decide) (yr_move rfl rfl) ?_
              refine VL.r (.inl rfl) rfl (by decide) (yr_icmp rfl (.inr (.inr (.inr (.inr (.inr rfl))))) rfl rfl) ?_
              refine VL.nil ?_
              refine VE.then_wp ?_
              refine V.cond rfl (fun h21 => ?_) (fun h21 => ?_)
              · skip
                replace h21 := ic_geq h21
                refine V.skip ?_
                refine VE.then_wp ?_
                refine V.seq ?_
                refine V.block ?_
                refine V.region ?_
                refine VL.r (.inl rfl) rfl (by decide) (yr_move rfl rfl) ?_
                refine VL.r (.inl rfl) rfl (by decide) (yr_move rfl rfl) ?_
                refine VL.r (.inl rfl) rfl (by decide) (yr_float rfl (.inr (.inr (.inl rfl))) rfl rfl) ?_
                refine VL.r (.inl rfl) rfl (by decide) (yr_move rfl rfl) ?_
                refine VL.r (.inl rfl) rfl (by decide) (yr_int rfl rfl rfl (.inr (.inr ⟨rfl, wrap_in (by omega)⟩))) ?_
                refine VL.r (.inl rfl) rfl (by decide) (yr_move rfl rfl) ?_
                refine VL.r (.inl rfl) rfl (by decide) (yr_int rfl rfl rfl (.inr (.inr ⟨rfl, wrap_in (by omega)⟩))) ?_
                refine VL.r (.inl rfl) rfl (by decide) (yr_int rfl rfl rfl (.inl ⟨rfl, wrap_in (by omega)⟩)) ?_
                refine VL.r (.inl rfl) rfl (by decide) (yr_mulN (2 * k) (2 * k + 1) rfl rfl rfl (by omega) (by omega) (Nat.le_trans (Nat.mul_le_mul (show 2 * k ≤ 16 by omega) (show 2 * k + 1 ≤ 17 by omega)) (by decide))) ?_
                refine VL.r (.inl rfl) rfl (by decide) (yr_ofInt rfl Tryd.underlying3 Tryd.underlying156 rfl) ?_
                refine VL.r (.inl rfl) rfl (by decide) (yr_float rfl (.inr (.inr (.inr rfl))) rfl rfl) ?_
                refine VL.new (.inl rfl) rfl (by decide) (yn_anyF (yr_float (a := 4607182418800017408) rfl (.inr (.inl rfl)) rfl rfl)) ?_
                intro y58
                refine VL.r (.inl rfl) rfl (by decide) (yr_assign rfl rfl) ?_
                refine VL.nil ?_
                refine VE.block_normal ?_
                refine VE.then_wp ?_
                refine V.region ?_
                refine VL.r (.inl rfl) rfl (by decide) (yr_move rfl rfl) ?_
                refine VL.r (.inl rfl) rfl (by decide) (yr_int rfl rfl rfl (.inr (.inl ⟨rfl, wrap_in (by omega)⟩))) ?_
                refine VL.r (.inl rfl) rfl (by decide) (yr_assign rfl rfl) ?_
                refine VL.nil ?_
                refine VE.round (k - 1, y58) ?_ ?_ ?_ ?_ ?_
                · exact (.cons rfl (.cons (congrArg (fun i => some (Value.int .i64 i)) (by omega)) .nil))
                · exact (.cons rfl (.cons rfl (.cons rfl .nil)))
                · exact (fun w hw => hw.sub (List.nil_sublist _))
                · exact ⟨by omega, trivial⟩
                · (try dsimp only); omega
              · skip
                replace h21 := ic_geq' h21
                refine V.exit ?_
                refine VE.then_exit ?_
                refine VE.then_exit ?_
                refine VE.block_here ?_
                refine VE.then_wp ?_
                refine V.seq ?_
                refine V.seq ?_
                refine V.region ?_
                refine VL.r (.inl rfl) rfl (by decide) (yr_move rfl rfl) ?_
                refine VL.nil ?_
                refine VE.then_wp ?_
                refine V.cond rfl (fun h22 => ?_) (fun h22 => ?_)
                · skip
                  refine V.seq ?_
                  refine V.region ?_
                  refine VL.r (.inl rfl) rfl (by decide) (yr_move rfl rfl) ?_
                  refine VL.r (.inl rfl) rfl (by decide) (yr_move rfl rfl) ?_
                  refine VL.r (.inl rfl) rfl (by decide) (yr_float rfl (.inr (.inr (.inl rfl))) rfl rfl) ?_
                  refine VL.r (.inl rfl) rfl (by decide) (yr_fneg rfl rfl) ?_
                  refine VL.r (.inl rfl) rfl (by decide) (yr_assign rfl rfl) ?_
                  refine VL.nil ?_
                  refine VE.then_wp ?_
                  refine V.ret ?_
                  refine VE.then_ret ?_
                  refine ret1 rfl rfl (fun w1 hw => ?_)
                  exact ⟨_, rfl, hw.below, (fun _ h => by cases h), List.Pairwise.nil⟩
                · skip
                  refine V.skip ?_
                  refine VE.then_wp ?_
                  refine V.seq ?_
                  refine V.region ?_
                  refine VL.r (.inl rfl) rfl (by decide) (yr_move rfl rfl) ?_
                  refine VL.r (.inl rfl) rfl (by decide) (yr_move rfl rfl) ?_
                  refine VL.r (.inl rfl) rfl (by decide) (yr_float rfl (.inr (.inr (.inl rfl))) rfl rfl) ?_
                  refine VL.r (.inl rfl) rfl (by decide) (yr_assign rfl rfl) ?_
                  refine VL.nil ?_
                  refine VE.then_wp ?_
                  refine V.ret ?_
                  refine ret1 rfl rfl (fun w1 hw => ?_)
                  exact ⟨_, rfl, hw.below, (fun _ h => by cases h), List.Pairwise.nil⟩
          · skip
            refine V.skip ?_
            refine VE.then_wp ?_
            refine V.seq ?_
            refine V.seq ?_
            refine V.region ?_
            refine VL.r (.inl rfl) rfl (by decide) (yr_move rfl rfl) ?_
            refine VL.r (.inl rfl) rfl (by decide) (yr_fcmp (b := 4598175219545276416) rfl (.inr (.inr (.inr (.inr (.inl rfl))))) rfl rfl) ?_
            refine VL.nil ?_
            refine VE.then_wp ?_
            refine V.cond rfl (fun h23 => ?_) (fun h23 => ?_)
            · skip
              refine V.region ?_
              refine VL.r (.inl rfl) rfl (by decide) (yr_move rfl rfl) ?_
              refine VL.r (.inl rfl) rfl (by decide) (yr_float (a := 4602678819172646912) rfl (.inr (.inl rfl)) rfl rfl) ?_
              refine VL.r (.inl rfl) rfl (by decide) (yr_assign rfl rfl) ?_
              refine VL.nil ?_
              refine VE.then_wp ?_
              refine V.seq ?_
              refine V.region ?_
              refine VL.r (.inl rfl) rfl (by decide) (yr_move rfl rfl) ?_
              refine VL.r (.inl rfl) rfl (by decide) (yr_float (b := 4618760256179416344) rfl (.inr (.inr (.inl rfl))) rfl rfl) ?_
              refine VL.r (.inl rfl) rfl (by decide) (yr_assign rfl rfl) ?_
              refine VL.nil ?_
              refine VE.then_wp ?_
              refine V.seq ?_
              refine V.region ?_
              refine VL.r (.inl rfl) rfl (by decide) (yr_move rfl rfl) ?_
              refine VL.r (.inl rfl) rfl (by decide) (yr_move rfl rfl) ?_
              refine VL.r (.inl rfl) rfl (by decide) (yr_float rfl (.inr (.inr (.inl rfl))) rfl rfl) ?_
              refine VL.r (.inl rfl) rfl (by decide) (yr_assign rfl rfl) ?_
              refine VL.nil ?_
              refine VE.then_wp ?_
              refine V.seq ?_
              refine V.region ?_
              refine VL.r (.inl rfl) rfl (by decide) (yr_assign (u := .float .f64 4607182418800017408) rfl rfl) ?_
              refine VL.nil ?_
              refine VE.then_wp ?_
              refine V.seq ?_
              refine V.seq ?_
              refine V.region ?_
              refine VL.r (.inl rfl) rfl (by decide) (yr_assign (u := .int .i64 8) rfl rfl) ?_
              refine VL.nil ?_
              refine VE.then_wp ?_
              refine V.block ?_
              refine V.loopc (G := Nat × Nat) [(4, _), (5, _), (6, _)] (fun ⟨k, y⟩ => k ≤ 8 ∧ True) (fun ⟨k, y⟩ => []) (fun ⟨k, y⟩ => [(7, .float .f64 y), (8, .int .i64 (k : Int))]) (fun ⟨k, y⟩ => k) (8, 4607182418800017408) (.cons rfl (.cons rfl (.cons rfl .nil))) (.cons rfl (.cons rfl .nil)) ?_ ?_ ?_
              · exact (fun w hw => hw.sub (List.nil_sublist _))
              · exact (by exact ⟨Nat.le_refl _, trivial⟩)
              rintro ⟨k, y⟩ ⟨hk, _⟩
              show V _ _ _ [] ([(7, .float .f64 y), (8, .int .i64 (k : Int))] ++ [(4, _), (5, _), (6, _)]) _ _
              refine V.seq ?_
              refine V.seq ?_
              refine V.region ?_
              refine VL.r (.inl rfl) rfl (by decide) (yr_move rfl rfl) ?_
              refine VL.r (.inl rfl) rfl (by decide) (yr_icmp rfl (.inr (.inr (.inr (.inr (.inr rfl))))) rfl rfl) ?_
              refine VL.nil ?_
              refine VE.then_wp ?_
              refine V.cond rfl (fun h24 => ?_) (fun h24 => ?_)
              · skip
                replace h24 := ic_geq h24
                refine V.skip ?_
                refine VE.then_wp ?_
                refine V.seq ?_
                refine V.block ?_
                refine V.region ?_
                refine VL.r (.inl rfl) rfl (by decide) (yr_move rfl rfl) ?_
                refine VL.r (.inl rfl) rfl (by decide) (yr_move rfl rfl) ?_
                refine VL.r (.inl rfl) rfl (by decide) (yr_float rfl (.inr (.inr (.inl rfl))) rfl rfl) ?_
                refine VL.r (.inl rfl) rfl (by decide) (yr_move rfl rfl) ?_
                refine VL.r (.inl rfl) rfl (by decide) (yr_int rfl rfl rfl (.inr (.inr ⟨rfl, wrap_in (by omega)⟩))) ?_
                refine VL.r (.inl rfl) rfl (by decide) (yr_move rfl rfl) ?_
                refine VL.r (.inl rfl) rfl (by decide) (yr_int rfl rfl rfl (.inr (.inr ⟨rfl, wrap_in (by omega)⟩))) ?_
                refine VL.r (.inl rfl) rfl (by decide) (yr_int rfl rfl rfl (.inl ⟨rfl, wrap_in (by omega)⟩)) ?_
                refine VL.r (.inl rfl) rfl (by decide) (yr_mulN (2 * k) (2 * k + 1) rfl rfl rfl (by omega) (by omega) (Nat.le_trans (Nat.mul_le_mul (show 2 * k ≤ 16 by omega) (show 2 * k + 1 ≤ 17 by omega)) (by decide))) ?_
                refine VL.r (.inl rfl) rfl (by decide) (yr_ofInt rfl Tryd.underlying3 Tryd.underlying156 rfl) ?_
                refine VL.r (.inl rfl) rfl (by decide) (yr_float rfl (.inr (.inr (.inr rfl))) rfl rfl) ?_
                refine VL.new (.inl rfl) rfl (by decide) (yn_anyF (yr_float (a := 4607182418800017408) rfl (.inr (.inl rfl)) rfl rfl)) ?_
                intro y58
                refine VL.r (.inl rfl) rfl (by decide) (yr_assign rfl rfl) ?_
                refine VL.nil ?_
                refine VE.block_normal ?_
                refine VE.then_wp ?_
                refine V.region ?_
                refine VL.r (.inl rfl) rfl (by decide) (yr_move rfl rfl) ?_
                refine VL.r (.inl rfl) rfl (by decide) (yr_int rfl rfl rfl (.inr (.inl ⟨rfl, wrap_in (by omega)⟩))) ?_
                refine VL.r (.inl rfl) rfl (by decide) (yr_assign rfl rfl) ?_
                refine VL.nil ?_
                refine VE.round (k - 1, y58) ?_ ?_ ?_ ?_ ?_
                · exact (.cons rfl (.cons (congrArg (fun i => some (Value.int .i64 i)) (by omega)) .nil))
                · exact (.cons rfl (.cons rfl (.cons rfl .nil)))
                · exact (fun w hw => hw.sub (List.nil_sublist _))
                · exact ⟨by omega, trivial⟩
                · (try dsimp only); omega
              · skip
                replace h24 := ic_geq' h24
                refine V.exit ?_
                refine VE.then_exit ?_
                refine VE.then_exit ?_
                refine VE.block_here ?_
                refine VE.then_wp ?_
                refine V.seq ?_
                refine V.seq ?_
                refine V.region ?_
                refine VL.r (.inl rfl) rfl (by decide) (yr_move rfl rfl) ?_
                refine VL.nil ?_
                refine VE.then_wp ?_
                refine V.cond rfl (fun h25 => ?_) (fun h25 => ?_)
                · skip
                  refine V.seq ?_
                  refine V.region ?_
                  refine VL.r (.inl rfl) rfl (by decide) (yr_move rfl rfl) ?_
                  refine VL.r (.inl rfl) rfl (by decide) (yr_move rfl rfl) ?_
                  refine VL.r (.inl rfl) rfl (by decide) (yr_float rfl (.inr (.inr (.inl rfl))) rfl rfl) ?_
                  refine VL.r (.inl rfl) rfl (by decide) (yr_fneg rfl rfl) ?_
                  refine VL.r (.inl rfl) rfl (by decide) (yr_assign rfl rfl) ?_
                  refine VL.nil ?_
                  refine VE.then_wp ?_
                  refine V.ret ?_
                  refine VE.then_ret ?_
                  refine ret1 rfl rfl (fun w1 hw => ?_)
                  exact ⟨_, rfl, hw.below, (fun _ h => by cases h), List.Pairwise.nil⟩
                · skip
                  refine V.skip ?_
                  refine VE.then_wp ?_
                  refine V.seq ?_
                  refine V.region ?_
                  refine VL.r (.inl rfl) rfl (by decide) (yr_move rfl rfl) ?_
                  refine VL.r (.inl rfl) rfl (by decide) (yr_move rfl rfl) ?_
                  refine VL.r (.inl rfl) rfl (by decide) (yr_float rfl (.inr (.inr (.inl rfl))) rfl rfl) ?_
                  refine VL.r (.inl rfl) rfl (by decide) (yr_assign rfl rfl) ?_
                  refine VL.nil ?_
                  refine VE.then_wp ?_
                  refine V.ret ?_
                  refine ret1 rfl rfl (fun w1 hw => ?_)
                  exact ⟨_, rfl, hw.below, (fun _ h => by cases h), List.Pairwise.nil⟩
            · skip
              refine V.skip ?_
              refine VE.then_wp ?_
              refine V.seq ?_
              refine V.region ?_
              refine VL.r (.inl rfl) rfl (by decide) (yr_move rfl rfl) ?_
              refine VL.r (.inl rfl) rfl (by decide) (yr_float (b := 4618760256179416344) rfl (.inr (.inr (.inl rfl))) rfl rfl) ?_
              refine VL.r (.inl rfl) rfl (by decide) (yr_assign rfl rfl) ?_
              refine VL.nil ?_
              refine VE.then_wp ?_
              refine V.seq ?_
              refine V.region ?_
              refine VL.r (.inl rfl) rfl (by decide) (yr_move rfl rfl) ?_
              refine VL.r (.inl rfl) rfl (by decide) (yr_move rfl rfl) ?_
              refine VL.r (.inl rfl) rfl (by decide) (yr_float rfl (.inr (.inr (.inl rfl))) rfl rfl) ?_
              refine VL.r (.inl rfl) rfl (by decide) (yr_assign rfl rfl) ?_
              refine VL.nil ?_
              refine VE.then_wp ?_
              refine V.seq ?_
              refine V.region ?_
              refine VL.r (.inl rfl) rfl (by decide) (yr_assign (u := .float .f64 4607182418800017408) rfl rfl) ?_
              refine VL.nil ?_
              refine VE.then_wp ?_
              refine V.seq ?_
              refine V.seq ?_
              refine V.region ?_
              refine VL.r (.inl rfl) rfl (by decide) (yr_assign (u := .int .i64 8) rfl rfl) ?_
              refine VL.nil ?_
              refine VE.then_wp ?_
              refine V.block ?_
              refine V.loopc (G := Nat × Nat) [(4, _), (5, _), (6, _)] (fun ⟨k, y⟩ => k ≤ 8 ∧ True) (fun ⟨k, y⟩ => []) (fun ⟨k, y⟩ => [(7, .float .f64 y), (8, .int .i64 (k : Int))]) (fun ⟨k, y⟩ => k) (8, 4607182418800017408) (.cons rfl (.cons rfl (.cons rfl .nil))) (.cons rfl (.cons rfl .nil)) ?_ ?_ ?_
              · exact (fun w hw => hw.sub (List.nil_sublist _))
              · exact (by exact ⟨Nat.le_refl _, trivial⟩)
              rintro ⟨k, y⟩ ⟨hk, _⟩
              show V _ _ _ [] ([(7, .float .f64 y), (8, .int .i64 (k : Int))] ++ [(4, _), (5, _), (6, _)]) _ _
              refine V.seq ?_
              refine V.seq ?_
              refine V.region ?_
              refine VL.r (.inl rfl) rfl (by decide) (yr_move rfl rfl) ?_
              refine VL.r (.inl rfl) rfl (by decide) (yr_icmp rfl (.inr (.inr (.inr (.inr (.inr rfl))))) rfl rfl) ?_
              refine VL.nil ?_
              refine VE.then_wp ?_
              refine V.cond rfl (fun h26 => ?_) (fun h26 => ?_)
              · skip
                replace h26 := ic_geq h26
                refine V.skip ?_
                refine VE.then_wp ?_
                refine V.seq ?_
                refine V.block ?_
                refine V.region ?_
                refine VL.r (.inl rfl) rfl (by decide) (yr_move rfl rfl) ?_
                refine VL.r (.inl rfl) rfl (by decide) (yr_move rfl rfl) ?_
                refine VL.r (.inl rfl) rfl (by decide) (yr_float rfl (.inr (.inr (.inl rfl))) rfl rfl) ?_
                refine VL.r (.inl rfl) rfl (by decide) (yr_move rfl rfl) ?_
                refine VL.r (.inl rfl) rfl (by decide) (yr_int rfl rfl rfl (.inr (.inr ⟨rfl, wrap_in (by omega)⟩))) ?_
                refine VL.r (.inl rfl) rfl (by decide) (yr_move rfl rfl) ?_
                refine VL.r (.inl rfl) rfl (by decide) (yr_int rfl rfl rfl (.inr (.inr ⟨rfl, wrap_in (by omega)⟩))) ?_
                refine VL.r (.inl rfl) rfl (by decide) (yr_int rfl rfl rfl (.inl ⟨rfl, wrap_in (by omega)⟩)) ?_
                refine VL.r (.inl rfl) rfl (by decide) (yr_mulN (2 * k) (2 * k + 1) rfl rfl rfl (by omega) (by omega) (Nat.le_trans (Nat.mul_le_mul (show 2 * k ≤ 16 by omega) (show 2 * k + 1 ≤ 17 by omega)) (by decide))) ?_
                refine VL.r (.inl rfl) rfl (by decide) (yr_ofInt rfl Tryd.underlying3 Tryd.underlying156 rfl) ?_
                refine VL.r (.inl rfl) rfl (by decide) (yr_float rfl (.inr (.inr (.inr rfl))) rfl rfl) ?_
                refine VL.new (.inl rfl) rfl (by decide) (yn_anyF (yr_float (a := 4607182418800017408) rfl (.inr (.inl rfl)) rfl rfl)) ?_
                intro y58
                refine VL.r (.inl rfl) rfl (by decide) (yr_assign rfl rfl) ?_
                refine VL.nil ?_
                refine VE.block_normal ?_
                refine VE.then_wp ?_
                refine V.region ?_
                refine VL.r (.inl rfl) rfl (by decide) (yr_move rfl rfl) ?_
                refine VL.r (.inl rfl) rfl (by decide) (yr_int rfl rfl rfl (.inr (.inl ⟨rfl, wrap_in (by omega)⟩))) ?_
                refine VL.r (.inl rfl) rfl (by decide) (yr_assign rfl rfl) ?_
                refine VL.nil ?_
                refine VE.round (k - 1, y58) ?_ ?_ ?_ ?_ ?_
                · exact (.cons rfl (.cons (congrArg (fun i => some (Value.int .i64 i)) (by omega)) .nil))
                · exact (.cons rfl (.cons rfl (.cons rfl .nil)))
                · exact (fun w hw => hw.sub (List.nil_sublist _))
                · exact ⟨by omega, trivial⟩
                · (try dsimp only); omega
              · skip
                replace h26 := ic_geq' h26
                refine V.exit ?_
                refine VE.then_exit ?_
                refine VE.then_exit ?_
                refine VE.block_here ?_
                refine VE.then_wp ?_
                refine V.seq ?_
                refine V.seq ?_
                refine V.region ?_
                refine VL.r (.inl rfl) rfl (by decide) (yr_move rfl rfl) ?_
                refine VL.nil ?_
                refine VE.then_wp ?_
                refine V.cond rfl (fun h27 => ?_) (fun h27 => ?_)
                · skip
                  refine V.seq ?_
                  refine V.region ?_
                  refine VL.r (.inl rfl) rfl (by decide) (yr_move rfl rfl) ?_
                  refine VL.r (.inl rfl) rfl (by decide) (yr_move rfl rfl) ?_
                  refine VL.r (.inl rfl) rfl (by decide) (yr_float rfl (.inr (.inr (.inl rfl))) rfl rfl) ?_
                  refine VL.r (.inl rfl) rfl (by decide) (yr_fneg rfl rfl) ?_
                  refine VL.r (.inl rfl) rfl (by decide) (yr_assign rfl rfl) ?_
                  refine VL.nil ?_
                  refine VE.then_wp ?_
                  refine V.ret ?_
                  refine VE.then_ret ?_
                  refine ret1 rfl rfl (fun w1 hw => ?_)
                  exact ⟨_, rfl, hw.below, (fun _ h => by cases h), List.Pairwise.nil⟩
                · skip
                  refine V.skip ?_
                  refine VE.then_wp ?_
                  refine V.seq ?_
                  refine V.region ?_
                  refine VL.r (.inl rfl) rfl (by decide) (yr_move rfl rfl) ?_
                  refine VL.r (.inl rfl) rfl (by decide) (yr_move rfl rfl) ?_
                  refine VL.r (.inl rfl) rfl (by decide) (yr_float rfl (.inr (.inr (.inl rfl))) rfl rfl) ?_
                  refine VL.r (.inl rfl) rfl (by decide) (yr_assign rfl rfl) ?_
                  refine VL.nil ?_
                  refine VE.then_wp ?_
                  refine V.ret ?_
                  refine ret1 rfl rfl (fun w1 hw => ?_)
                  exact ⟨_, rfl, hw.below, (fun _ h => by cases h), List.Pairwise.nil⟩

theorem c_sineD {w : World} {x : Nat} : New Tryd.prog 102 [.float .f32 x] w (fun v : Nat => .float .f32 v) (fun _ => []) := by
  refine New.enter Tryd.func102 rfl Tryd.ntmps102 (Nat.le_of_ble_eq_true rfl) ?_
  refine V.seq ?_
  refine V.region ?_
  refine VL.r (.inl rfl) rfl (by decide) (yr_assign (u := .float .f32 0) rfl rfl) ?_
  refine VL.nil ?_
  refine VE.then_wp ?_
  refine V.seq ?_
  refine V.region ?_
  refine VL.r (.inl rfl) rfl (by decide) (yr_move rfl rfl) ?_
  refine VL.r (.inl rfl) rfl (by decide) (yr_fconv rfl Tryd.underlying90 Tryd.underlying156 (by decide) rfl (fover_up _)) ?_
  refine VL.new (.inl rfl) rfl (by decide) (yn_callf rfl known110_Dv (.cons rfl .nil) (fun w hw => c_sineW)) ?_
  intro v5
  refine VL.new (.inl rfl) rfl (by decide) (yn_callf rfl known109_Dv (.cons rfl .nil) (fun w hw => c_narD)) ?_
  intro v6
  refine VL.r (.inl rfl) rfl (by decide) (yr_assign rfl rfl) ?_
  refine VL.nil ?_
  refine VE.then_wp ?_
  refine V.ret ?_
  refine ret1 rfl rfl (fun w1 hw => ?_)
  exact ⟨_, rfl, hw.below, (fun _ h => by cases h), List.Pairwise.nil⟩

theorem c_roundD {w : World} {x r h : Nat} : New Tryd.prog 87 [.float .f32 x, .float .f32 r, .float .f32 h] w (fun v : Nat × Nat × Nat => .agg #[.float .f32 v.1, .float .f32 v.2.1, .float .f32 v.2.2]) (fun _ => []) := by
  refine New.enter Tryd.func87 rfl Tryd.ntmps87 (Nat.le_of_ble_eq_true rfl) ?_
  refine V.seq ?_
  refine V.region ?_
  refine VL.new1 (.inl rfl) rfl (by decide) (yn_alloc rfl zero101_Dv rfl) ?_
  intro b6
  refine VL.nil ?_
  refine VE.then_wp ?_
  refine V.seq ?_
  refine V.region ?_
  refine VL.r (.inl rfl) rfl (by decide) (yr_move rfl rfl) ?_
  refine VL.r (.inl rfl) rfl (by decide) (yr_move rfl rfl) ?_
  refine VL.r (.inl rfl) rfl (by decide) (yr_float (b := 1048576000) rfl (.inl rfl) rfl rfl) ?_
  refine VL.new (.inl rfl) rfl (by decide) (yn_callf rfl known102_Dv (.cons rfl .nil) (fun w hw => c_sineD)) ?_
  intro v10
  refine VL.r (.inl rfl) rfl (by decide) (yr_float rfl (.inr (.inr (.inl rfl))) rfl rfl) ?_
  refine VL.r (.inl rfl) rfl (by decide) (yr_move rfl rfl) ?_
  refine VL.r (.inl rfl) rfl (by decide) (yr_move rfl rfl) ?_
  refine VL.new (.inl rfl) rfl (by decide) (yn_callf rfl known102_Dv (.cons rfl .nil) (fun w hw => c_sineD)) ?_
  intro v14
  refine VL.r (.inl rfl) rfl (by decide) (yr_float rfl (.inr (.inr (.inl rfl))) rfl rfl) ?_
  refine VL.r (.inl rfl) rfl (by decide) (yr_move rfl rfl) ?_
  refine VL.r (.inl rfl) rfl (by decide) (yr_build rfl lay101_Dv rfl (.cons rfl (.cons rfl (.cons rfl .nil))) (by first | (simp; done) | (simp [vv]; done) | (simp [cn, cn1, cn0]; done)) rfl) ?_
  refine VL.s (.inl rfl) rfl (yc_store rfl sz101_Dv rfl rfl (by repeat (first | exact UpdF.here | apply UpdF.there | apply UpdF.thereS)) (.inr ⟨rfl, rfl⟩) rfl (by first | exact Nat.le_of_ble_eq_true rfl | simp) (by decide) rfl) ?_
  rintro ⟨⟩
  refine VL.nil ?_
  refine VE.then_wp ?_
  refine V.ret ?_
  refine retC rfl (rv_cellS rfl Tryd.underlying101 sz101_Dv (by first | exact Sees.root (by assumption) | exact Sees.own (by repeat (first | exact List.mem_cons_self | exact List.mem_append_left _ (by assumption) | apply List.mem_cons_of_mem | apply List.mem_append_right)) | exact Sees.root (hR _ (by omega)) | exact Sees.own (RowsIn.mem (by repeat (first | exact RowsIn.here | exact RowsIn.last | apply RowsIn.there | apply RowsIn.thereS)) _ (by omega)) | exact Sees.own (WRowsIn.mem (by repeat (first | exact WRowsIn.here | exact WRowsIn.last | apply WRowsIn.there | apply WRowsIn.thereS)) _ (by omega))) rfl rfl rfl) (by nofun) (fun w1 hw => ?_)
  exact ⟨(fop .mul .f32 r v10, fop .mul .f32 r v14, h), rfl, hw.below, (fun _ h => by cases h), List.Pairwise.nil⟩

theorem c_ringD {w : World} {m : Nat} {r h cur : Nat} (hm : m ≤ 8) : New Tryd.prog 72 [.int .i64 (m : Int), .float .f32 r, .float .f32 h, .float .f32 cur] w (fun x : {x : (Option Addr × Nat) × List V3 // x.2.length ≤ 8} => .agg #[.slice x.1.1.1 x.1.2.length x.1.1.2, .bool true, .float .f32 cur]) (fun x => [⟨x.1.1.1, vl x.1.2, x.1.1.2 * 3, 101⟩]) := by
  refine New.enter Tryd.func72 rfl Tryd.ntmps72 (Nat.le_of_ble_eq_true rfl) ?_
  refine V.seq ?_
  refine V.region ?_
  refine VL.new1 (.inl rfl) rfl (by decide) (yn_alloc rfl zero93_Dv rfl) ?_
  intro b8
  refine VL.nil ?_
  refine VE.then_wp ?_
  refine V.seq ?_
  refine V.region ?_
  refine VL.new1 (.inl rfl) rfl (by decide) (yn_buildSlice rfl Tryd.underlying91 elt101_Dv rfl (by decide) .nil (by first | (simp; done) | (simp [vv]; done)) rfl rfl) ?_
  intro b11
  refine VL.r (.inl rfl) rfl (by decide) (yr_move rfl rfl) ?_
  refine VL.r (.inl rfl) rfl (by decide) (yr_build rfl lay93_Dv rfl (.cons rfl (.cons rfl (.cons rfl .nil))) (by first | (simp; done) | (simp [vv]; done) | (simp [cn, cn1, cn0]; done)) rfl) ?_
  refine VL.new1 (.inl rfl) rfl (by decide) (yn_alloc rfl zero93_Dv rfl) ?_
  intro b9
  refine VL.s (.inl rfl) rfl (yc_store rfl sz93_Dv rfl rfl (by repeat (first | exact UpdF.here | apply UpdF.there | apply UpdF.thereS)) (.inr ⟨rfl, rfl⟩) rfl (by first | exact Nat.le_of_ble_eq_true rfl | simp) (by decide) rfl) ?_
  rintro ⟨⟩
  refine VL.nil ?_
  refine VE.then_wp ?_
  refine V.seq ?_
  refine V.seq ?_
  refine V.region ?_
  refine VL.r (.inl rfl) rfl (by decide) (yr_assign (u := .int .i64 0) rfl rfl) ?_
  refine VL.nil ?_
  refine VE.then_wp ?_
  refine V.block ?_
  refine V.loopc (G := (List V3) × (Option Addr) × Nat) [(0, _), (1, _), (2, _), (8, _), (9, _)] (fun ⟨vs, ar, cr⟩ => vs.length ≤ m ∧ True) (fun ⟨vs, ar, cr⟩ => [⟨ar, vl vs, cr * 3, 101⟩, ⟨some ⟨b9, 0, none⟩, [.slice ar vs.length cr, .bool true, .float .f32 cur], 3, 93⟩, ⟨some ⟨b8, 0, none⟩, [.slice none 0 0, .bool false, .float .f32 0], 3, 93⟩]) (fun ⟨vs, ar, cr⟩ => [(10, .int .i64 (vs.length : Int))]) (fun ⟨vs, ar, cr⟩ => m - vs.length) ([], some ⟨b11, 0, none⟩, 0) (.cons rfl (.cons rfl (.cons rfl (.cons rfl (.cons rfl .nil))))) (.cons rfl .nil) ?_ ?_ ?_
  · exact (fun w hw => hw.pick (by apply Pick.cons1; (· repeat (first | exact Rem.here | exact Rem.all | exact Rem.hereS | apply Rem.there | apply Rem.thereS)); apply Pick.cons1; (· repeat (first | exact Rem.here | exact Rem.all | exact Rem.hereS | apply Rem.there | apply Rem.thereS)); apply Pick.cons1; (· repeat (first | exact Rem.here | exact Rem.all | exact Rem.hereS | apply Rem.there | apply Rem.thereS)); exact Pick.nil))
  · exact (by exact ⟨Nat.zero_le _, trivial⟩)
  rintro ⟨vs, ar, cr⟩ ⟨hl9, _⟩
  show V _ _ _ [⟨ar, vl vs, cr * 3, 101⟩, ⟨some ⟨b9, 0, none⟩, [.slice ar vs.length cr, .bool true, .float .f32 cur], 3, 93⟩, ⟨some ⟨b8, 0, none⟩, [.slice none 0 0, .bool false, .float .f32 0], 3, 93⟩] ([(10, .int .i64 (vs.length : Int))] ++ [(0, _), (1, _), (2, _), (8, _), (9, _)]) _ _
  refine V.seq ?_
  refine V.seq ?_
  refine V.region ?_
  refine VL.r (.inl rfl) rfl (by decide) (yr_move rfl rfl) ?_
  refine VL.r (.inl rfl) rfl (by decide) (yr_move rfl rfl) ?_
  refine VL.r (.inl rfl) rfl (by decide) (yr_icmp rfl (.inr (.inr (.inl rfl))) rfl rfl) ?_
  refine VL.nil ?_
  refine VE.then_wp ?_
  refine V.cond rfl (fun h1 => ?_) (fun h1 => ?_)
  · skip
    replace h1 := ic_lss h1
    refine V.skip ?_
    refine VE.then_wp ?_
    refine V.seq ?_
    refine V.block ?_
    refine V.draw [(0, 0), (1, 0), (2, 0), (3, 0), (4, 0), (5, 0), (6, 0), (7, 0), (8, 0), (9, 1), (10, 1), (11, 3), (12, 0), (13, 3)] mixed_Dv (by kernel_rfl) (by intro j o hj; simp at hj) ?_
    refine SW.r rfl (.inl rfl) rfl (by decide) (yr_fieldAddr rfl Tryd.underlying93 rfl rfl sz91_Dv (by decide) rfl) ?_
    refine SW.q rfl (.inl rfl) rfl (by decide) (yq_load rfl fb91_Dv rfl (by first | exact Sees.root (by assumption) | exact Sees.own (by repeat (first | exact List.mem_cons_self | exact List.mem_append_left _ (by assumption) | apply List.mem_cons_of_mem | apply List.mem_append_right)) | exact Sees.root (hR _ (by omega)) | exact Sees.own (RowsIn.mem (by repeat (first | exact RowsIn.here | exact RowsIn.last | apply RowsIn.there | apply RowsIn.thereS)) _ (by omega)) | exact Sees.own (WRowsIn.mem (by repeat (first | exact WRowsIn.here | exact WRowsIn.last | apply WRowsIn.there | apply WRowsIn.thereS)) _ (by omega))) rfl) ?_
    refine SW.r rfl (.inl rfl) rfl (by decide) (yr_move rfl rfl) ?_
    refine SW.r rfl (.inl rfl) rfl (by decide) (yr_ofInt rfl Tryd.underlying2 Tryd.underlying90 rfl) ?_
    refine SW.r rfl (.inl rfl) rfl (by decide) (yr_move rfl rfl) ?_
    refine SW.r rfl (.inl rfl) rfl (by decide) (yr_ofInt rfl Tryd.underlying2 Tryd.underlying90 rfl) ?_
    refine SW.r rfl (.inl rfl) rfl (by decide) (yr_float rfl (.inr (.inr (.inr rfl))) rfl rfl) ?_
    refine SW.r rfl (.inl rfl) rfl (by decide) (yr_move rfl rfl) ?_
    refine SW.r rfl (.inl rfl) rfl (by decide) (yr_move rfl rfl) ?_
    refine SW.new rfl (.inl rfl) rfl (by decide) (yn_callf rfl known87_Dv (.cons rfl (.cons rfl (.cons rfl .nil))) (fun w hw => c_roundD)) ?_
    rintro ⟨f28, g28, h28⟩
    refine SW.new1 rfl (.inl rfl) rfl (by decide) (yn_buildSlice rfl Tryd.underlying91 elt101_Dv rfl (by decide) (.cons rfl .nil) (by first | (simp; done) | (simp [vv]; done)) rfl rfl) ?_
    intro b29
    refine SW.c rfl (.inl rfl) rfl (by decide) (yc_appendz 3 rfl rfl Tryd.underlying91 elt101_Dv rfl rfl (by repeat (first | exact UpdF.here | apply UpdF.there | apply UpdF.thereS)) (by first | exact Sees.root (by assumption) | exact Sees.own (by repeat (first | exact List.mem_cons_self | exact List.mem_append_left _ (by assumption) | apply List.mem_cons_of_mem | apply List.mem_append_right)) | exact Sees.root (hR _ (by omega)) | exact Sees.own (RowsIn.mem (by repeat (first | exact RowsIn.here | exact RowsIn.last | apply RowsIn.there | apply RowsIn.thereS)) _ (by omega)) | exact Sees.own (WRowsIn.mem (by repeat (first | exact WRowsIn.here | exact WRowsIn.last | apply WRowsIn.there | apply WRowsIn.thereS)) _ (by omega))) rfl (by first | (rw [vl_length]; done) | rfl) rfl (by first | rfl | exact vl_scal _) rfl (by omega) (by omega)) ?_
    rintro ⟨a30, c30⟩
    refine SW.r rfl (.inl rfl) rfl (by decide) (yr_fieldAddr rfl Tryd.underlying93 rfl rfl sz91_Dv (by decide) rfl) ?_
    refine SW.s rfl (.inl rfl) rfl (yc_store rfl sz91_Dv rfl rfl (by repeat (first | exact UpdF.here | apply UpdF.there | apply UpdF.thereS)) (.inl ⟨rfl, rfl⟩) rfl (by first | exact Nat.le_of_ble_eq_true rfl | simp) (by decide) rfl) ?_
    rintro ⟨⟩
    refine SW.done ?_
    refine VE.block_normal ?_
    refine VE.then_wp ?_
    refine V.region ?_
    refine VL.r (.inl rfl) rfl (by decide) (yr_move rfl rfl) ?_
    refine VL.r (.inl rfl) rfl (by decide) (yr_int rfl rfl rfl (.inl ⟨rfl, wrap_in (by omega)⟩)) ?_
    refine VL.r (.inl rfl) rfl (by decide) (yr_assign rfl rfl) ?_
    refine VL.nil ?_
    refine VE.round (vs ++ [(f28, g28, h28)], a30, c30) ?_ ?_ ?_ ?_ ?_
    · exact (.cons (congrArg (fun i => some (Value.int .i64 i)) (by rw [List.length_append]; rfl)) .nil)
    · exact (.cons rfl (.cons rfl (.cons rfl (.cons rfl (.cons rfl .nil)))))
    · exact (fun w hw => by dsimp only; rw [← vl_snoc, List.length_append]; exact hw.pick (by apply Pick.cons1; (· repeat (first | exact Rem.here | exact Rem.all | exact Rem.hereS | apply Rem.there | apply Rem.thereS)); apply Pick.cons1; (· repeat (first | exact Rem.here | exact Rem.all | exact Rem.hereS | apply Rem.there | apply Rem.thereS)); apply Pick.cons1; (· repeat (first | exact Rem.here | exact Rem.all | exact Rem.hereS | apply Rem.there | apply Rem.thereS)); exact Pick.nil))
    · dsimp only
      rw [List.length_append]
      exact ⟨by show vs.length + 1 ≤ m; omega, trivial⟩
    · dsimp only; rw [List.length_append]; show m - (vs.length + 1) < m - vs.length; omega
  · skip
    replace h1 := ic_lss' h1
    refine V.exit ?_
    refine VE.then_exit ?_
    refine VE.then_exit ?_
    refine VE.block_here ?_
    refine VE.then_wp ?_
    refine V.seq ?_
    refine V.region ?_
    refine VL.q (.inl rfl) rfl (by decide) (yq_loadS rfl Tryd.underlying93 sz93_Dv rfl (by first | exact Sees.root (by assumption) | exact Sees.own (by repeat (first | exact List.mem_cons_self | exact List.mem_append_left _ (by assumption) | apply List.mem_cons_of_mem | apply List.mem_append_right)) | exact Sees.root (hR _ (by omega)) | exact Sees.own (RowsIn.mem (by repeat (first | exact RowsIn.here | exact RowsIn.last | apply RowsIn.there | apply RowsIn.thereS)) _ (by omega)) | exact Sees.own (WRowsIn.mem (by repeat (first | exact WRowsIn.here | exact WRowsIn.last | apply WRowsIn.there | apply WRowsIn.thereS)) _ (by omega))) rfl rfl rfl) ?_
    refine VL.s (.inl rfl) rfl (yc_store rfl sz93_Dv rfl rfl (by repeat (first | exact UpdF.here | apply UpdF.there | apply UpdF.thereS)) (.inr ⟨rfl, rfl⟩) rfl (by first | exact Nat.le_of_ble_eq_true rfl | simp) (by decide) rfl) ?_
    rintro ⟨⟩
    refine VL.nil ?_
    refine VE.then_wp ?_
    refine V.ret ?_
    refine retC rfl (rv_cellS rfl Tryd.underlying93 sz93_Dv (by first | exact Sees.root (by assumption) | exact Sees.own (by repeat (first | exact List.mem_cons_self | exact List.mem_append_left _ (by assumption) | apply List.mem_cons_of_mem | apply List.mem_append_right)) | exact Sees.root (hR _ (by omega)) | exact Sees.own (RowsIn.mem (by repeat (first | exact RowsIn.here | exact RowsIn.last | apply RowsIn.there | apply RowsIn.thereS)) _ (by omega)) | exact Sees.own (WRowsIn.mem (by repeat (first | exact WRowsIn.here | exact WRowsIn.last | apply WRowsIn.there | apply WRowsIn.thereS)) _ (by omega))) rfl rfl rfl) (by nofun) (fun w1 hw => ?_)
    exact ⟨⟨((ar, cr), vs), by show vs.length ≤ 8; omega⟩, rfl, (hw.pick (by apply Pick.cons1; (· repeat (first | exact Rem.here | exact Rem.all | exact Rem.hereS | apply Rem.there | apply Rem.thereS)); exact Pick.nil)).out1⟩

theorem c_giveWY {w : World} {a : Option Addr} {c : Nat} {ps : List V3} {cl : Bool} {cur : Nat} (hA : Cl w a (vl ps)) (hn : ps.length ≤ 1000) (hv : wireOk (ps, cl, cur) = true) : Pure Tryd.prog 89 [.agg #[.slice a ps.length c, .bool cl, .float .f32 cur]] w (.tuple #[.agg #[.slice a ps.length c, .bool cl, .float .f32 cur], .bool true]) := by
  refine Pure.enter Tryd.func89 rfl Tryd.ntmps89 (Nat.le_of_ble_eq_true rfl) ?_
  refine V.seq ?_
  refine V.region ?_
  refine VL.new1 (.inl rfl) rfl (by decide) (yn_box rfl rfl (.inr ⟨rfl, rfl⟩)) ?_
  intro b1
  refine VL.new1 (.inl rfl) rfl (by decide) (yn_alloc rfl zero93_Dv rfl) ?_
  intro b2
  refine VL.r (.inl rfl) rfl (by decide) (yr_assign (u := .bool false) rfl rfl) ?_
  refine VL.nil ?_
  refine VE.then_wp ?_
  refine V.seq ?_
  refine V.seq ?_
  refine V.region ?_
  refine VL.q (.inl rfl) rfl (by decide) (yq_callf rfl known104_Dv (.cons rfl .nil) (fun w hw => (c_l02Is (q := some ⟨b1, 0, none⟩) (o := 0) (all := [.slice a ps.length c, .bool cl, .float .f32 cur]) (ps := ps) (by first | exact Sees.root (by assumption) w hw | exact Sees.own (by repeat (first | exact List.mem_cons_self | exact List.mem_append_left _ (by assumption) | apply List.mem_cons_of_mem | apply List.mem_append_right)) w hw) rfl rfl rfl (by first | exact Sees.root (by assumption) w hw | exact Sees.own (by repeat (first | exact List.mem_cons_self | exact List.mem_append_left _ (by assumption) | apply List.mem_cons_of_mem | apply List.mem_append_right)) w hw) (by omega)))) ?_
  refine VL.r (.inl rfl) rfl (by decide) (yr_not rfl rfl) ?_
  refine VL.nil ?_
  refine VE.then_wp ?_
  refine V.cond rfl (fun h1 => ?_) (fun h1 => ?_)
  · skip
    replace h1 := bnot_t h1
    rw [hv] at h1; cases h1
  · skip
    replace h1 := bnot_f h1
    refine V.skip ?_
    refine VE.then_wp ?_
    refine V.seq ?_
    refine V.region ?_
    refine VL.q (.inl rfl) rfl (by decide) (yq_loadS rfl Tryd.underlying93 sz93_Dv rfl (by first | exact Sees.root (by assumption) | exact Sees.own (by repeat (first | exact List.mem_cons_self | exact List.mem_append_left _ (by assumption) | apply List.mem_cons_of_mem | apply List.mem_append_right)) | exact Sees.root (hR _ (by omega)) | exact Sees.own (RowsIn.mem (by repeat (first | exact RowsIn.here | exact RowsIn.last | apply RowsIn.there | apply RowsIn.thereS)) _ (by omega)) | exact Sees.own (WRowsIn.mem (by repeat (first | exact WRowsIn.here | exact WRowsIn.last | apply WRowsIn.there | apply WRowsIn.thereS)) _ (by omega))) rfl rfl rfl) ?_
    refine VL.s (.inl rfl) rfl (yc_store rfl sz93_Dv rfl rfl (by repeat (first | exact UpdF.here | apply UpdF.there | apply UpdF.thereS)) (.inr ⟨rfl, rfl⟩) rfl (by first | exact Nat.le_of_ble_eq_true rfl | simp) (by decide) rfl) ?_
    rintro ⟨⟩
    refine VL.r (.inl rfl) rfl (by decide) (yr_assign (u := .bool true) rfl rfl) ?_
    refine VL.nil ?_
    refine VE.then_wp ?_
    refine V.ret ?_
    refine retN rfl (.cons (rv_cellS rfl Tryd.underlying93 sz93_Dv (by first | exact Sees.root (by assumption) | exact Sees.own (by repeat (first | exact List.mem_cons_self | exact List.mem_append_left _ (by assumption) | apply List.mem_cons_of_mem | apply List.mem_append_right)) | exact Sees.root (hR _ (by omega)) | exact Sees.own (RowsIn.mem (by repeat (first | exact RowsIn.here | exact RowsIn.last | apply RowsIn.there | apply RowsIn.thereS)) _ (by omega)) | exact Sees.own (WRowsIn.mem (by repeat (first | exact WRowsIn.here | exact WRowsIn.last | apply WRowsIn.there | apply WRowsIn.thereS)) _ (by omega))) rfl rfl rfl) (.cons (rv_tmp rfl (by nofun)) .nil)) (by nofun) (fun w1 hw => ?_)
    exact ⟨rfl, hw.below⟩

theorem c_giveWN {w : World} {a : Option Addr} {c : Nat} {ps : List V3} {cl : Bool} {cur : Nat} (hA : Cl w a (vl ps)) (hn : ps.length ≤ 1000) (hv : wireOk (ps, cl, cur) = false) : Pure Tryd.prog 89 [.agg #[.slice a ps.length c, .bool cl, .float .f32 cur]] w (.tuple #[.agg #[.slice none 0 0, .bool false, .float .f32 0], .bool false]) := by
  refine Pure.enter Tryd.func89 rfl Tryd.ntmps89 (Nat.le_of_ble_eq_true rfl) ?_
  refine V.seq ?_
  refine V.region ?_
  refine VL.new1 (.inl rfl) rfl (by decide) (yn_box rfl rfl (.inr ⟨rfl, rfl⟩)) ?_
  intro b1
  refine VL.new1 (.inl rfl) rfl (by decide) (yn_alloc rfl zero93_Dv rfl) ?_
  intro b2
  refine VL.r (.inl rfl) rfl (by decide) (yr_assign (u := .bool false) rfl rfl) ?_
  refine VL.nil ?_
  refine VE.then_wp ?_
  refine V.seq ?_
  refine V.seq ?_
  refine V.region ?_
  refine VL.q (.inl rfl) rfl (by decide) (yq_callf rfl known104_Dv (.cons rfl .nil) (fun w hw => (c_l02Is (q := some ⟨b1, 0, none⟩) (o := 0) (all := [.slice a ps.length c, .bool cl, .float .f32 cur]) (ps := ps) (by first | exact Sees.root (by assumption) w hw | exact Sees.own (by repeat (first | exact List.mem_cons_self | exact List.mem_append_left _ (by assumption) | apply List.mem_cons_of_mem | apply List.mem_append_right)) w hw) rfl rfl rfl (by first | exact Sees.root (by assumption) w hw | exact Sees.own (by repeat (first | exact List.mem_cons_self | exact List.mem_append_left _ (by assumption) | apply List.mem_cons_of_mem | apply List.mem_append_right)) w hw) (by omega)))) ?_
  refine VL.r (.inl rfl) rfl (by decide) (yr_not rfl rfl) ?_
  refine VL.nil ?_
  refine VE.then_wp ?_
  refine V.cond rfl (fun h1 => ?_) (fun h1 => ?_)
  · skip
    replace h1 := bnot_t h1
    refine V.seq ?_
    refine V.region ?_
    refine VL.r (.inl rfl) rfl (by decide) (yr_build rfl lay93_Dv rfl .nil (by first | (simp; done) | (simp [vv]; done) | (simp [cn, cn1, cn0]; done)) rfl) ?_
    refine VL.s (.inl rfl) rfl (yc_store rfl sz93_Dv rfl rfl (by repeat (first | exact UpdF.here | apply UpdF.there | apply UpdF.thereS)) (.inr ⟨rfl, rfl⟩) rfl (by first | exact Nat.le_of_ble_eq_true rfl | simp) (by decide) rfl) ?_
    rintro ⟨⟩
    refine VL.r (.inl rfl) rfl (by decide) (yr_assign (u := .bool false) rfl rfl) ?_
    refine VL.nil ?_
    refine VE.then_wp ?_
    refine V.ret ?_
    refine VE.then_ret ?_
    refine retN rfl (.cons (rv_cellS rfl Tryd.underlying93 sz93_Dv (by first | exact Sees.root (by assumption) | exact Sees.own (by repeat (first | exact List.mem_cons_self | exact List.mem_append_left _ (by assumption) | apply List.mem_cons_of_mem | apply List.mem_append_right)) | exact Sees.root (hR _ (by omega)) | exact Sees.own (RowsIn.mem (by repeat (first | exact RowsIn.here | exact RowsIn.last | apply RowsIn.there | apply RowsIn.thereS)) _ (by omega)) | exact Sees.own (WRowsIn.mem (by repeat (first | exact WRowsIn.here | exact WRowsIn.last | apply WRowsIn.there | apply WRowsIn.thereS)) _ (by omega))) rfl rfl rfl) (.cons (rv_tmp rfl (by nofun)) .nil)) (by nofun) (fun w1 hw => ?_)
    exact ⟨rfl, hw.below⟩
  · skip
    replace h1 := bnot_f h1
    rw [hv] at h1; cases h1

theorem c_squareW {w : World} {r h cur : Nat} : New Tryd.prog 73 [.float .f32 r, .float .f32 h, .float .f32 cur] w (fun x : {x : (((Option Addr × Nat) × List V3) × Bool × Nat) × Bool // x.1.1.2.length ≤ 4} => .tuple #[.agg #[.slice x.1.1.1.1.1 x.1.1.1.2.length x.1.1.1.1.2, .bool x.1.1.2.1, .float .f32 x.1.1.2.2], .bool x.1.2]) (fun x => [⟨x.1.1.1.1.1, vl x.1.1.1.2, x.1.1.1.1.2 * 3, 101⟩]) := by
  refine New.enter Tryd.func73 rfl Tryd.ntmps73 (Nat.le_of_ble_eq_true rfl) ?_
  refine V.seq ?_
  refine V.region ?_
  refine VL.new1 (.inl rfl) rfl (by decide) (yn_alloc rfl zero93_Dv rfl) ?_
  intro b6
  refine VL.r (.inl rfl) rfl (by decide) (yr_assign (u := .bool false) rfl rfl) ?_
  refine VL.nil ?_
  refine VE.then_wp ?_
  refine V.seq ?_
  refine V.seq ?_
  refine V.region ?_
  refine VL.r (.inl rfl) rfl (by decide) (yr_move rfl rfl) ?_
  refine VL.q (.inl rfl) rfl (by decide) (yq_callf rfl known88_Dv (.cons rfl .nil) (fun w hw => c_l02Size _)) ?_
  refine VL.r (.inl rfl) rfl (by decide) (yr_not rfl rfl) ?_
  refine VL.nil ?_
  refine VE.then_wp ?_
  refine V.cond rfl (fun h1 => ?_) (fun h1 => ?_)
  · skip
    replace h1 := bnot_t h1
    refine V.seq ?_
    refine V.region ?_
    refine VL.r (.inl rfl) rfl (by decide) (yr_build rfl lay93_Dv rfl .nil (by first | (simp; done) | (simp [vv]; done) | (simp [cn, cn1, cn0]; done)) rfl) ?_
    refine VL.s (.inl rfl) rfl (yc_store rfl sz93_Dv rfl rfl (by repeat (first | exact UpdF.here | apply UpdF.there | apply UpdF.thereS)) (.inr ⟨rfl, rfl⟩) rfl (by first | exact Nat.le_of_ble_eq_true rfl | simp) (by decide) rfl) ?_
    rintro ⟨⟩
    refine VL.r (.inl rfl) rfl (by decide) (yr_assign (u := .bool false) rfl rfl) ?_
    refine VL.nil ?_
    refine VE.then_wp ?_
    refine V.ret ?_
    refine VE.then_ret ?_
    refine retN rfl (.cons (rv_cellS rfl Tryd.underlying93 sz93_Dv (by first | exact Sees.root (by assumption) | exact Sees.own (by repeat (first | exact List.mem_cons_self | exact List.mem_append_left _ (by assumption) | apply List.mem_cons_of_mem | apply List.mem_append_right)) | exact Sees.root (hR _ (by omega)) | exact Sees.own (RowsIn.mem (by repeat (first | exact RowsIn.here | exact RowsIn.last | apply RowsIn.there | apply RowsIn.thereS)) _ (by omega)) | exact Sees.own (WRowsIn.mem (by repeat (first | exact WRowsIn.here | exact WRowsIn.last | apply WRowsIn.there | apply WRowsIn.thereS)) _ (by omega))) rfl rfl rfl) (.cons (rv_tmp rfl (by nofun)) .nil)) (by nofun) (fun w1 hw => ?_)
    first
      | exact ⟨⟨((((a44, c44), [(r, r, h), (fneg .f32 r, r, h), (fneg .f32 r, fneg .f32 r, h), (r, fneg .f32 r, h)]), true, cur), true), Nat.le_refl 4⟩, rfl, (hw.pick (by apply Pick.cons1; (· repeat (first | exact Rem.here | exact Rem.all | exact Rem.hereS | apply Rem.there | apply Rem.thereS)); exact Pick.nil)).out1⟩
      | exact ⟨⟨((((none, 0), []), false, 0), false), Nat.zero_le 4⟩, rfl, hw.below, by simp [vl, Ent.at], List.pairwise_singleton _ _⟩
  · skip
    replace h1 := bnot_f h1
    refine V.skip ?_
    refine VE.then_wp ?_
    refine V.seq ?_
    refine V.region ?_
    refine VL.new1 (.inl rfl) rfl (by decide) (yn_buildSlice rfl Tryd.underlying91 elt101_Dv rfl (by decide) .nil (by first | (simp; done) | (simp [vv]; done)) rfl rfl) ?_
    intro b13
    refine VL.r (.inl rfl) rfl (by decide) (yr_move rfl rfl) ?_
    refine VL.r (.inl rfl) rfl (by decide) (yr_build rfl lay93_Dv rfl (.cons rfl (.cons rfl (.cons rfl .nil))) (by first | (simp; done) | (simp [vv]; done) | (simp [cn, cn1, cn0]; done)) rfl) ?_
    refine VL.new1 (.inl rfl) rfl (by decide) (yn_alloc rfl zero93_Dv rfl) ?_
    intro b8
    refine VL.s (.inl rfl) rfl (yc_store rfl sz93_Dv rfl rfl (by repeat (first | exact UpdF.here | apply UpdF.there | apply UpdF.thereS)) (.inr ⟨rfl, rfl⟩) rfl (by first | exact Nat.le_of_ble_eq_true rfl | simp) (by decide) rfl) ?_
    rintro ⟨⟩
    refine VL.nil ?_
    refine VE.then_wp ?_
    refine V.seq ?_
    refine V.region ?_
    refine VL.r (.inl rfl) rfl (by decide) (yr_fieldAddr rfl Tryd.underlying93 rfl rfl sz91_Dv (by decide) rfl) ?_
    refine VL.q (.inl rfl) rfl (by decide) (yq_load rfl fb91_Dv rfl (by first | exact Sees.root (by assumption) | exact Sees.own (by repeat (first | exact List.mem_cons_self | exact List.mem_append_left _ (by assumption) | apply List.mem_cons_of_mem | apply List.mem_append_right)) | exact Sees.root (hR _ (by omega)) | exact Sees.own (RowsIn.mem (by repeat (first | exact RowsIn.here | exact RowsIn.last | apply RowsIn.there | apply RowsIn.thereS)) _ (by omega)) | exact Sees.own (WRowsIn.mem (by repeat (first | exact WRowsIn.here | exact WRowsIn.last | apply WRowsIn.there | apply WRowsIn.thereS)) _ (by omega))) rfl) ?_
    refine VL.r (.inl rfl) rfl (by decide) (yr_move rfl rfl) ?_
    refine VL.r (.inl rfl) rfl (by decide) (yr_move rfl rfl) ?_
    refine VL.r (.inl rfl) rfl (by decide) (yr_move rfl rfl) ?_
    refine VL.r (.inl rfl) rfl (by decide) (yr_build rfl lay101_Dv rfl (.cons rfl (.cons rfl (.cons rfl .nil))) (by first | (simp; done) | (simp [vv]; done) | (simp [cn, cn1, cn0]; done)) rfl) ?_
    refine VL.r (.inl rfl) rfl (by decide) (yr_move rfl rfl) ?_
    refine VL.r (.inl rfl) rfl (by decide) (yr_fneg rfl rfl) ?_
    refine VL.r (.inl rfl) rfl (by decide) (yr_move rfl rfl) ?_
    refine VL.r (.inl rfl) rfl (by decide) (yr_move rfl rfl) ?_
    refine VL.r (.inl rfl) rfl (by decide) (yr_build rfl lay101_Dv rfl (.cons rfl (.cons rfl (.cons rfl .nil))) (by first | (simp; done) | (simp [vv]; done) | (simp [cn, cn1, cn0]; done)) rfl) ?_
    refine VL.new1 (.inl rfl) rfl (by decide) (yn_buildSlice rfl Tryd.underlying91 elt101_Dv rfl (by decide) (.cons rfl (.cons rfl .nil)) (by first | (simp; done) | (simp [vv]; done)) rfl rfl) ?_
    intro b27
    refine VL.c (.inl rfl) rfl (by decide) (yc_appendz 3 rfl rfl Tryd.underlying91 elt101_Dv rfl rfl (by repeat (first | exact UpdF.here | apply UpdF.there | apply UpdF.thereS)) (by first | exact Sees.root (by assumption) | exact Sees.own (by repeat (first | exact List.mem_cons_self | exact List.mem_append_left _ (by assumption) | apply List.mem_cons_of_mem | apply List.mem_append_right)) | exact Sees.root (hR _ (by omega)) | exact Sees.own (RowsIn.mem (by repeat (first | exact RowsIn.here | exact RowsIn.last | apply RowsIn.there | apply RowsIn.thereS)) _ (by omega)) | exact Sees.own (WRowsIn.mem (by repeat (first | exact WRowsIn.here | exact WRowsIn.last | apply WRowsIn.there | apply WRowsIn.thereS)) _ (by omega))) rfl (by first | (rw [vl_length]; done) | rfl) rfl (by first | rfl | exact vl_scal _) rfl (by omega) (by omega)) ?_
    rintro ⟨a28, c28⟩
    refine VL.r (.inl rfl) rfl (by decide) (yr_fieldAddr rfl Tryd.underlying93 rfl rfl sz91_Dv (by decide) rfl) ?_
    refine VL.s (.inl rfl) rfl (yc_store rfl sz91_Dv rfl rfl (by repeat (first | exact UpdF.here | apply UpdF.there | apply UpdF.thereS)) (.inl ⟨rfl, rfl⟩) rfl (by first | exact Nat.le_of_ble_eq_true rfl | simp) (by decide) rfl) ?_
    rintro ⟨⟩
    refine VL.nil ?_
    refine VE.then_wp ?_
    refine V.seq ?_
    refine V.region ?_
    refine VL.r (.inl rfl) rfl (by decide) (yr_fieldAddr rfl Tryd.underlying93 rfl rfl sz91_Dv (by decide) rfl) ?_
    refine VL.q (.inl rfl) rfl (by decide) (yq_load rfl fb91_Dv rfl (by first | exact Sees.root (by assumption) | exact Sees.own (by repeat (first | exact List.mem_cons_self | exact List.mem_append_left _ (by assumption) | apply List.mem_cons_of_mem | apply List.mem_append_right)) | exact Sees.root (hR _ (by omega)) | exact Sees.own (RowsIn.mem (by repeat (first | exact RowsIn.here | exact RowsIn.last | apply RowsIn.there | apply RowsIn.thereS)) _ (by omega)) | exact Sees.own (WRowsIn.mem (by repeat (first | exact WRowsIn.here | exact WRowsIn.last | apply WRowsIn.there | apply WRowsIn.thereS)) _ (by omega))) rfl) ?_
    refine VL.r (.inl rfl) rfl (by decide) (yr_move rfl rfl) ?_
    refine VL.r (.inl rfl) rfl (by decide) (yr_fneg rfl rfl) ?_
    refine VL.r (.inl rfl) rfl (by decide) (yr_move rfl rfl) ?_
    refine VL.r (.inl rfl) rfl (by decide) (yr_fneg rfl rfl) ?_
    refine VL.r (.inl rfl) rfl (by decide) (yr_move rfl rfl) ?_
    refine VL.r (.inl rfl) rfl (by decide) (yr_build rfl lay101_Dv rfl (.cons rfl (.cons rfl (.cons rfl .nil))) (by first | (simp; done) | (simp [vv]; done) | (simp [cn, cn1, cn0]; done)) rfl) ?_
    refine VL.r (.inl rfl) rfl (by decide) (yr_move rfl rfl) ?_
    refine VL.r (.inl rfl) rfl (by decide) (yr_move rfl rfl) ?_
    refine VL.r (.inl rfl) rfl (by decide) (yr_fneg rfl rfl) ?_
    refine VL.r (.inl rfl) rfl (by decide) (yr_move rfl rfl) ?_
    refine VL.r (.inl rfl) rfl (by decide) (yr_build rfl lay101_Dv rfl (.cons rfl (.cons rfl (.cons rfl .nil))) (by first | (simp; done) | (simp [vv]; done) | (simp [cn, cn1, cn0]; done)) rfl) ?_
    refine VL.new1 (.inl rfl) rfl (by decide) (yn_buildSlice rfl Tryd.underlying91 elt101_Dv rfl (by decide) (.cons rfl (.cons rfl .nil)) (by first | (simp; done) | (simp [vv]; done)) rfl rfl) ?_
    intro b43
    refine VL.c (.inl rfl) rfl (by decide) (yc_appendz 3 rfl rfl Tryd.underlying91 elt101_Dv rfl rfl (by repeat (first | exact UpdF.here | apply UpdF.there | apply UpdF.thereS)) (by first | exact Sees.root (by assumption) | exact Sees.own (by repeat (first | exact List.mem_cons_self | exact List.mem_append_left _ (by assumption) | apply List.mem_cons_of_mem | apply List.mem_append_right)) | exact Sees.root (hR _ (by omega)) | exact Sees.own (RowsIn.mem (by repeat (first | exact RowsIn.here | exact RowsIn.last | apply RowsIn.there | apply RowsIn.thereS)) _ (by omega)) | exact Sees.own (WRowsIn.mem (by repeat (first | exact WRowsIn.here | exact WRowsIn.last | apply WRowsIn.there | apply WRowsIn.thereS)) _ (by omega))) rfl (by first | (rw [vl_length]; done) | rfl) rfl (by first | rfl | exact vl_scal _) rfl (by omega) (by omega)) ?_
    rintro ⟨a44, c44⟩
    refine VL.r (.inl rfl) rfl (by decide) (yr_fieldAddr rfl Tryd.underlying93 rfl rfl sz91_Dv (by decide) rfl) ?_
    refine VL.s (.inl rfl) rfl (yc_store rfl sz91_Dv rfl rfl (by repeat (first | exact UpdF.here | apply UpdF.there | apply UpdF.thereS)) (.inl ⟨rfl, rfl⟩) rfl (by first | exact Nat.le_of_ble_eq_true rfl | simp) (by decide) rfl) ?_
    rintro ⟨⟩
    refine VL.nil ?_
    refine VE.then_wp ?_
    refine V.seq ?_
    refine V.region ?_
    refine VL.q (.inl rfl) rfl (by decide) (yq_loadS rfl Tryd.underlying93 sz93_Dv rfl (by first | exact Sees.root (by assumption) | exact Sees.own (by repeat (first | exact List.mem_cons_self | exact List.mem_append_left _ (by assumption) | apply List.mem_cons_of_mem | apply List.mem_append_right)) | exact Sees.root (hR _ (by omega)) | exact Sees.own (RowsIn.mem (by repeat (first | exact RowsIn.here | exact RowsIn.last | apply RowsIn.there | apply RowsIn.thereS)) _ (by omega)) | exact Sees.own (WRowsIn.mem (by repeat (first | exact WRowsIn.here | exact WRowsIn.last | apply WRowsIn.there | apply WRowsIn.thereS)) _ (by omega))) rfl rfl rfl) ?_
    rcases Bool.eq_false_or_eq_true (wireOk ([(r, r, h), (fneg .f32 r, r, h), (fneg .f32 r, fneg .f32 r, h), (r, fneg .f32 r, h)], true, cur)) with hm | hm
    · skip
      refine VL.q (.inl rfl) rfl (by decide) (yq_callf rfl known89_Dv (.cons rfl .nil) (fun w hw => (c_giveWY (ps := [(r, r, h), (fneg .f32 r, r, h), (fneg .f32 r, fneg .f32 r, h), (r, fneg .f32 r, h)]) (cl := true) (cur := cur) (by first | exact Sees.root (by assumption) w hw | exact Sees.own (by repeat (first | exact List.mem_cons_self | exact List.mem_append_left _ (by assumption) | apply List.mem_cons_of_mem | apply List.mem_append_right)) w hw) (show 4 ≤ 1000 by decide) hm))) ?_
      refine VL.r (.inl rfl) rfl (by decide) (yr_extract rfl rfl rfl (by nofun)) ?_
      refine VL.r (.inl rfl) rfl (by decide) (yr_extract rfl rfl rfl (by nofun)) ?_
      refine VL.s (.inl rfl) rfl (yc_store rfl sz93_Dv rfl rfl (by repeat (first | exact UpdF.here | apply UpdF.there | apply UpdF.thereS)) (.inr ⟨rfl, rfl⟩) rfl (by first | exact Nat.le_of_ble_eq_true rfl | simp) (by decide) rfl) ?_
      rintro ⟨⟩
      refine VL.r (.inl rfl) rfl (by decide) (yr_assign rfl rfl) ?_
      refine VL.nil ?_
      refine VE.then_wp ?_
      refine V.ret ?_
      refine retN rfl (.cons (rv_cellS rfl Tryd.underlying93 sz93_Dv (by first | exact Sees.root (by assumption) | exact Sees.own (by repeat (first | exact List.mem_cons_self | exact List.mem_append_left _ (by assumption) | apply List.mem_cons_of_mem | apply List.mem_append_right)) | exact Sees.root (hR _ (by omega)) | exact Sees.own (RowsIn.mem (by repeat (first | exact RowsIn.here | exact RowsIn.last | apply RowsIn.there | apply RowsIn.thereS)) _ (by omega)) | exact Sees.own (WRowsIn.mem (by repeat (first | exact WRowsIn.here | exact WRowsIn.last | apply WRowsIn.there | apply WRowsIn.thereS)) _ (by omega))) rfl rfl rfl) (.cons (rv_tmp rfl (by nofun)) .nil)) (by nofun) (fun w1 hw => ?_)
      first
        | exact ⟨⟨((((a44, c44), [(r, r, h), (fneg .f32 r, r, h), (fneg .f32 r, fneg .f32 r, h), (r, fneg .f32 r, h)]), true, cur), true), Nat.le_refl 4⟩, rfl, (hw.pick (by apply Pick.cons1; (· repeat (first | exact Rem.here | exact Rem.all | exact Rem.hereS | apply Rem.there | apply Rem.thereS)); exact Pick.nil)).out1⟩
        | exact ⟨⟨((((none, 0), []), false, 0), false), Nat.zero_le 4⟩, rfl, hw.below, by simp [vl, Ent.at], List.pairwise_singleton _ _⟩
    · skip
      refine VL.q (.inl rfl) rfl (by decide) (yq_callf rfl known89_Dv (.cons rfl .nil) (fun w hw => (c_giveWN (ps := [(r, r, h), (fneg .f32 r, r, h), (fneg .f32 r, fneg .f32 r, h), (r, fneg .f32 r, h)]) (cl := true) (cur := cur) (by first | exact Sees.root (by assumption) w hw | exact Sees.own (by repeat (first | exact List.mem_cons_self | exact List.mem_append_left _ (by assumption) | apply List.mem_cons_of_mem | apply List.mem_append_right)) w hw) (show 4 ≤ 1000 by decide) hm))) ?_
      refine VL.r (.inl rfl) rfl (by decide) (yr_extract rfl rfl rfl (by nofun)) ?_
      refine VL.r (.inl rfl) rfl (by decide) (yr_extract rfl rfl rfl (by nofun)) ?_
      refine VL.s (.inl rfl) rfl (yc_store rfl sz93_Dv rfl rfl (by repeat (first | exact UpdF.here | apply UpdF.there | apply UpdF.thereS)) (.inr ⟨rfl, rfl⟩) rfl (by first | exact Nat.le_of_ble_eq_true rfl | simp) (by decide) rfl) ?_
      rintro ⟨⟩
      refine VL.r (.inl rfl) rfl (by decide) (yr_assign rfl rfl) ?_
      refine VL.nil ?_
      refine VE.then_wp ?_
      refine V.ret ?_
      refine retN rfl (.cons (rv_cellS rfl Tryd.underlying93 sz93_Dv (by first | exact Sees.root (by assumption) | exact Sees.own (by repeat (first | exact List.mem_cons_self | exact List.mem_append_left _ (by assumption) | apply List.mem_cons_of_mem | apply List.mem_append_right)) | exact Sees.root (hR _ (by omega)) | exact Sees.own (RowsIn.mem (by repeat (first | exact RowsIn.here | exact RowsIn.last | apply RowsIn.there | apply RowsIn.thereS)) _ (by omega)) | exact Sees.own (WRowsIn.mem (by repeat (first | exact WRowsIn.here | exact WRowsIn.last | apply WRowsIn.there | apply WRowsIn.thereS)) _ (by omega))) rfl rfl rfl) (.cons (rv_tmp rfl (by nofun)) .nil)) (by nofun) (fun w1 hw => ?_)
      first
        | exact ⟨⟨((((a44, c44), [(r, r, h), (fneg .f32 r, r, h), (fneg .f32 r, fneg .f32 r, h), (r, fneg .f32 r, h)]), true, cur), true), Nat.le_refl 4⟩, rfl, (hw.pick (by apply Pick.cons1; (· repeat (first | exact Rem.here | exact Rem.all | exact Rem.hereS | apply Rem.there | apply Rem.thereS)); exact Pick.nil)).out1⟩
        | exact ⟨⟨((((none, 0), []), false, 0), false), Nat.zero_le 4⟩, rfl, hw.below, by simp [vl, Ent.at], List.pairwise_singleton _ _⟩

theorem c_dwire {w0 : World} {a : Option Addr} {c q n sd : Nat} {bs : List Int} (hA : Cl w0 a (bl bs)) (hb : Bytes bs) (hl : bs.length ≤ 2000000) (hn : n ≤ 99000) (hsd : sd < 18446744073709551616) : Mut Tryd.prog 51 [.pointer (some (adr (some ⟨q, 0, none⟩) 0))] w0 [⟨some ⟨q, 0, none⟩, [.slice a bs.length c, .int .i64 ((n : Nat) : Int), .int .u64 ((sd : Nat) : Int)], 3, 87⟩] (fun x : {x : (((Option Addr × Nat) × {vs : List V3 // vs.length ≤ 8}) × Bool × Nat) × Nat × Nat // (True) ∧ x.2.2 < 18446744073709551616 ∧ n ≤ x.2.1 ∧ x.2.1 ≤ n + 60} => .agg #[.slice x.1.1.1.1.1 x.1.1.1.2.1.length x.1.1.1.1.2, .bool x.1.1.2.1, .float .f32 x.1.1.2.2]) (fun x => [⟨some ⟨q, 0, none⟩, [.slice a bs.length c, .int .i64 ((x.1.2.1 : Nat) : Int), .int .u64 ((x.1.2.2 : Nat) : Int)], 3, 87⟩, ⟨x.1.1.1.1.1, vl x.1.1.1.2.1, x.1.1.1.1.2 * 3, 101⟩]) := by
  refine Mut.enter Tryd.func51 rfl Tryd.ntmps51 (Nat.le_of_ble_eq_true rfl) ?_
  intro F
  refine V.seq ?_
  refine V.region ?_
  refine VL.new1 (.inl rfl) rfl (by decide) (yn_alloc rfl zero93_Dv rfl) ?_
  intro b2
  refine VL.nil ?_
  refine VE.then_wp ?_
  refine V.seq ?_
  refine V.region ?_
  refine VL.r (.inl rfl) rfl (by decide) (yr_move rfl rfl) ?_
  refine VL.c (.inl rfl) rfl (by decide) (yc_callf rfl known35_Dv (.cons rfl (.cons rfl .nil)) (by apply Pick.one; repeat (first | exact Rem.here | apply Rem.there | apply Rem.thereS)) (c_pickG (m := 17) hA hb hl (by (try dsimp only); omega) (by (try dsimp only); omega) (by (try dsimp only); omega) (by (try dsimp only); omega))) ?_
  rintro ⟨⟨x12, n12, s12⟩, hx12, hs12, hn12, hm12⟩
  dsimp only at hx12 hs12 hn12 hm12
  refine VL.r (.inl rfl) rfl (by decide) (yr_int rfl rfl rfl (.inr (.inl ⟨rfl, wrap_in (by (try dsimp only); omega)⟩))) ?_
  refine VL.r (.inl rfl) rfl (by decide) (yr_ofInt rfl Tryd.underlying2 Tryd.underlying90 rfl) ?_
  refine VL.r (.inl rfl) rfl (by decide) (yr_float (b := 1082130432) rfl (.inr (.inr (.inr rfl))) rfl rfl) ?_
  refine VL.r (.inl rfl) rfl (by decide) (yr_assign rfl rfl) ?_
  refine VL.nil ?_
  refine VE.then_wp ?_
  refine V.seq ?_
  refine V.seq ?_
  refine V.region ?_
  refine VL.r (.inl rfl) rfl (by decide) (yr_move rfl rfl) ?_
  refine VL.c (.inl rfl) rfl (by decide) (yc_callf rfl known35_Dv (.cons rfl (.cons rfl .nil)) (by apply Pick.one; repeat (first | exact Rem.here | apply Rem.there | apply Rem.thereS)) (c_pickG (m := 4) hA hb hl (by (try dsimp only); omega) (by (try dsimp only); omega) (by (try dsimp only); omega) (by (try dsimp only); omega))) ?_
  rintro ⟨⟨x17, n17, s17⟩, hx17, hs17, hn17, hm17⟩
  dsimp only at hx17 hs17 hn17 hm17
  refine VL.nil ?_
  refine VE.then_wp ?_
  refine V.block ?_
  refine V.seq ?_
  refine V.region ?_
  refine VL.r (.inl rfl) rfl (by decide) (yr_icmp rfl (.inl rfl) rfl rfl) ?_
  refine VL.r (.inl rfl) rfl (by decide) (yr_assign rfl rfl) ?_
  refine VL.nil ?_
  refine VE.then_wp ?_
  refine V.cond rfl (fun h1 => ?_) (fun h1 => ?_)
  · skip
    replace h1 := ic_eql h1
    refine V.seq ?_
    refine V.region ?_
    refine VL.r (.inl rfl) rfl (by decide) (yr_move rfl rfl) ?_
    refine VL.c (.inl rfl) rfl (by decide) (yc_callf rfl known35_Dv (.cons rfl (.cons rfl .nil)) (by apply Pick.one; repeat (first | exact Rem.here | apply Rem.there | apply Rem.thereS)) (c_pickG (m := 5) hA hb hl (by (try dsimp only); omega) (by (try dsimp only); omega) (by (try dsimp only); omega) (by (try dsimp only); omega))) ?_
    rintro ⟨⟨x21, n21, s21⟩, hx21, hs21, hn21, hm21⟩
    dsimp only at hx21 hs21 hn21 hm21
    refine VL.r (.inl rfl) rfl (by decide) (yr_addN (3 + x21) rfl rfl rfl (by push_cast; rfl) (by omega)) ?_
    refine VL.r (.inl rfl) rfl (by decide) (yr_assign rfl rfl) ?_
    refine VL.nil ?_
    refine VE.then_wp ?_
    refine V.seq ?_
    refine V.region ?_
    refine VL.r (.inl rfl) rfl (by decide) (yr_move rfl rfl) ?_
    refine VL.c (.inl rfl) rfl (by decide) (yc_callf rfl known35_Dv (.cons rfl (.cons rfl .nil)) (by apply Pick.one; repeat (first | exact Rem.here | apply Rem.there | apply Rem.thereS)) (c_pickG (m := 8) hA hb hl (by (try dsimp only); omega) (by (try dsimp only); omega) (by (try dsimp only); omega) (by (try dsimp only); omega))) ?_
    rintro ⟨⟨x24, n24, s24⟩, hx24, hs24, hn24, hm24⟩
    dsimp only at hx24 hs24 hn24 hm24
    refine VL.r (.inl rfl) rfl (by decide) (yr_int rfl rfl rfl (.inl ⟨rfl, wrap_in (by (try dsimp only); omega)⟩)) ?_
    refine VL.r (.inl rfl) rfl (by decide) (yr_ofInt rfl Tryd.underlying2 Tryd.underlying90 rfl) ?_
    refine VL.r (.inl rfl) rfl (by decide) (yr_float (b := 1082130432) rfl (.inr (.inr (.inr rfl))) rfl rfl) ?_
    refine VL.r (.inl rfl) rfl (by decide) (yr_assign rfl rfl) ?_
    refine VL.nil ?_
    refine VE.then_wp ?_
    refine V.seq ?_
    refine V.region ?_
    refine VL.r (.inl rfl) rfl (by decide) (yr_move rfl rfl) ?_
    refine VL.r (.inl rfl) rfl (by decide) (yr_move rfl rfl) ?_
    refine VL.r (.inl rfl) rfl (by decide) (yr_move rfl rfl) ?_
    refine VL.c (.inl rfl) rfl (by decide) (yc_callf rfl known53_Dv (.cons rfl .nil) (by apply Pick.one; repeat (first | exact Rem.here | apply Rem.there | apply Rem.thereS)) (c_small hA hb hl (by (try dsimp only); omega) (by (try dsimp only); omega))) ?_
    rintro ⟨⟨v31, n31, s31⟩, hv31, hs31, hn31, hm31⟩
    dsimp only at hv31 hs31 hn31 hm31
    refine VL.r (.inl rfl) rfl (by decide) (yr_move rfl rfl) ?_
    refine VL.new (.inl rfl) rfl (by decide) (yn_callf rfl known72_Dv (.cons rfl (.cons rfl (.cons rfl (.cons rfl .nil)))) (fun w hw => (c_ringD (m := 3 + x21) (by (try dsimp only); omega)))) ?_
    rintro ⟨⟨⟨a33, c33⟩, vs33⟩, hz33⟩
    dsimp only at hz33
    refine VL.s (.inl rfl) rfl (yc_store rfl sz93_Dv rfl rfl (by repeat (first | exact UpdF.here | apply UpdF.there | apply UpdF.thereS)) (.inr ⟨rfl, rfl⟩) rfl (by first | exact Nat.le_of_ble_eq_true rfl | simp) (by decide) rfl) ?_
    rintro ⟨⟩
    refine VL.nil ?_
    refine VE.then_wp ?_
    refine V.ret ?_
    refine VE.block_ret ?_
    refine VE.then_ret ?_
    refine retC rfl (rv_cellS rfl Tryd.underlying93 sz93_Dv (by first | exact Sees.root (by assumption) | exact Sees.own (by repeat (first | exact List.mem_cons_self | exact List.mem_append_left _ (by assumption) | apply List.mem_cons_of_mem | apply List.mem_append_right)) | exact Sees.root (hR _ (by omega)) | exact Sees.own (RowsIn.mem (by repeat (first | exact RowsIn.here | exact RowsIn.last | apply RowsIn.there | apply RowsIn.thereS)) _ (by omega)) | exact Sees.own (WRowsIn.mem (by repeat (first | exact WRowsIn.here | exact WRowsIn.last | apply WRowsIn.there | apply WRowsIn.thereS)) _ (by omega))) rfl rfl rfl) (by nofun) (fun w1 hw => ?_)
    exact ⟨⟨((((a33, c33), ⟨vs33, by omega⟩), true, (fop .quo .f32 (FloatKind.f32.nearest ((x12 : Int) - 8)) 1082130432)), n31, s31), trivial, by assumption, by (try dsimp only); omega, by (try dsimp only); omega⟩, rfl, hw.pick (by apply Pick.app1; (· repeat (first | exact Rem.here | exact Rem.all | exact Rem.hereS | apply Rem.there | apply Rem.thereS)); apply Pick.cons1; (· repeat (first | exact Rem.here | exact Rem.all | exact Rem.hereS | apply Rem.there | apply Rem.thereS)); apply Pick.cons1; (· repeat (first | exact Rem.here | exact Rem.all | exact Rem.hereS | apply Rem.there | apply Rem.thereS)); exact Pick.nil)⟩
  · skip
    replace h1 := ic_eql' h1
    refine V.seq ?_
    refine V.region ?_
    refine VL.r (.inl rfl) rfl (by decide) (yr_icmp rfl (.inl rfl) rfl rfl) ?_
    refine VL.r (.inl rfl) rfl (by decide) (yr_assign rfl rfl) ?_
    refine VL.nil ?_
    refine VE.then_wp ?_
    refine V.cond rfl (fun h2 => ?_) (fun h2 => ?_)
    · skip
      replace h2 := ic_eql h2
      refine V.seq ?_
      refine V.region ?_
      refine VL.r (.inl rfl) rfl (by decide) (yr_move rfl rfl) ?_
      refine VL.c (.inl rfl) rfl (by decide) (yc_callf rfl known35_Dv (.cons rfl (.cons rfl .nil)) (by apply Pick.one; repeat (first | exact Rem.here | apply Rem.there | apply Rem.thereS)) (c_pickG (m := 8) hA hb hl (by (try dsimp only); omega) (by (try dsimp only); omega) (by (try dsimp only); omega) (by (try dsimp only); omega))) ?_
      rintro ⟨⟨x38, n38, s38⟩, hx38, hs38, hn38, hm38⟩
      dsimp only at hx38 hs38 hn38 hm38
      refine VL.r (.inl rfl) rfl (by decide) (yr_int rfl rfl rfl (.inl ⟨rfl, wrap_in (by (try dsimp only); omega)⟩)) ?_
      refine VL.r (.inl rfl) rfl (by decide) (yr_ofInt rfl Tryd.underlying2 Tryd.underlying90 rfl) ?_
      refine VL.r (.inl rfl) rfl (by decide) (yr_float (b := 1082130432) rfl (.inr (.inr (.inr rfl))) rfl rfl) ?_
      refine VL.r (.inl rfl) rfl (by decide) (yr_move rfl rfl) ?_
      refine VL.new (.inl rfl) rfl (by decide) (yn_callf rfl known73_Dv (.cons rfl (.cons rfl (.cons rfl .nil))) (fun w hw => c_squareW)) ?_
      rintro ⟨⟨⟨⟨⟨a43, c43⟩, vs43⟩, cl43, cu43⟩, z43⟩, hz43⟩
      dsimp only at hz43
      refine VL.r (.inl rfl) rfl (by decide) (yr_move rfl rfl) ?_
      refine VL.r (.inl rfl) rfl (by decide) (yr_extract rfl rfl rfl (by nofun)) ?_
      refine VL.r (.inl rfl) rfl (by decide) (yr_extract rfl rfl rfl (by nofun)) ?_
      refine VL.new1 (.inl rfl) rfl (by decide) (yn_alloc rfl zero93_Dv rfl) ?_
      intro b6
      refine VL.s (.inl rfl) rfl (yc_store rfl sz93_Dv rfl rfl (by repeat (first | exact UpdF.here | apply UpdF.there | apply UpdF.thereS)) (.inr ⟨rfl, rfl⟩) rfl (by first | exact Nat.le_of_ble_eq_true rfl | simp) (by decide) rfl) ?_
      rintro ⟨⟩
      refine VL.r (.inl rfl) rfl (by decide) (yr_assign rfl rfl) ?_
      refine VL.nil ?_
      refine VE.then_wp ?_
      refine V.seq ?_
      refine V.region ?_
      refine VL.r (.inl rfl) rfl (by decide) (yr_move rfl rfl) ?_
      refine VL.nil ?_
      refine VE.then_wp ?_
      refine V.cond rfl (fun h3 => ?_) (fun h3 => ?_)
      · skip
        refine V.seq ?_
        refine V.region ?_
        refine VL.q (.inl rfl) rfl (by decide) (yq_loadS rfl Tryd.underlying93 sz93_Dv rfl (by first | exact Sees.root (by assumption) | exact Sees.own (by repeat (first | exact List.mem_cons_self | exact List.mem_append_left _ (by assumption) | apply List.mem_cons_of_mem | apply List.mem_append_right)) | exact Sees.root (hR _ (by omega)) | exact Sees.own (RowsIn.mem (by repeat (first | exact RowsIn.here | exact RowsIn.last | apply RowsIn.there | apply RowsIn.thereS)) _ (by omega)) | exact Sees.own (WRowsIn.mem (by repeat (first | exact WRowsIn.here | exact WRowsIn.last | apply WRowsIn.there | apply WRowsIn.thereS)) _ (by omega))) rfl rfl rfl) ?_
        refine VL.s (.inl rfl) rfl (yc_store rfl sz93_Dv rfl rfl (by repeat (first | exact UpdF.here | apply UpdF.there | apply UpdF.thereS)) (.inr ⟨rfl, rfl⟩) rfl (by first | exact Nat.le_of_ble_eq_true rfl | simp) (by decide) rfl) ?_
        rintro ⟨⟩
        refine VL.nil ?_
        refine VE.then_wp ?_
        refine V.ret ?_
        refine VE.block_ret ?_
        refine VE.then_ret ?_
        refine retC rfl (rv_cellS rfl Tryd.underlying93 sz93_Dv (by first | exact Sees.root (by assumption) | exact Sees.own (by repeat (first | exact List.mem_cons_self | exact List.mem_append_left _ (by assumption) | apply List.mem_cons_of_mem | apply List.mem_append_right)) | exact Sees.root (hR _ (by omega)) | exact Sees.own (RowsIn.mem (by repeat (first | exact RowsIn.here | exact RowsIn.last | apply RowsIn.there | apply RowsIn.thereS)) _ (by omega)) | exact Sees.own (WRowsIn.mem (by repeat (first | exact WRowsIn.here | exact WRowsIn.last | apply WRowsIn.there | apply WRowsIn.thereS)) _ (by omega))) rfl rfl rfl) (by nofun) (fun w1 hw => ?_)
        exact ⟨⟨((((a43, c43), ⟨vs43, by omega⟩), cl43, cu43), n38, s38), trivial, by assumption, by (try dsimp only); omega, by (try dsimp only); omega⟩, rfl, hw.pick (by apply Pick.app1; (· repeat (first | exact Rem.here | exact Rem.all | exact Rem.hereS | apply Rem.there | apply Rem.thereS)); apply Pick.cons1; (· repeat (first | exact Rem.here | exact Rem.all | exact Rem.hereS | apply Rem.there | apply Rem.thereS)); apply Pick.cons1; (· repeat (first | exact Rem.here | exact Rem.all | exact Rem.hereS | apply Rem.there | apply Rem.thereS)); exact Pick.nil)⟩
      · skip
        refine V.skip ?_
        refine VE.block_normal ?_
        refine VE.then_wp ?_
        refine V.seq ?_
        refine V.region ?_
        refine VL.new1 (.inl rfl) rfl (by decide) (yn_buildSlice rfl Tryd.underlying91 elt101_Dv rfl (by decide) .nil (by first | (simp; done) | (simp [vv]; done)) rfl rfl) ?_
        intro b48
        refine VL.r (.inl rfl) rfl (by decide) (yr_move rfl rfl) ?_
        refine VL.c (.inl rfl) rfl (by decide) (yc_callf rfl known54_Dv (.cons rfl (.cons rfl .nil)) (by apply Pick.one; repeat (first | exact Rem.here | apply Rem.there | apply Rem.thereS)) (c_one (m := 2) hA hb hl (by (try dsimp only); omega) (by (try dsimp only); omega) (by decide) (by decide))) ?_
        rintro ⟨⟨v50, n50, s50⟩, hv50, hs50, hn50, hm50⟩
        dsimp only at hv50 hs50 hn50 hm50
        refine VL.r (.inl rfl) rfl (by decide) (yr_move rfl rfl) ?_
        refine VL.r (.inl rfl) rfl (by decide) (yr_build rfl lay93_Dv rfl (.cons rfl (.cons rfl (.cons rfl .nil))) (by first | (simp; done) | (simp [vv]; done) | (simp [cn, cn1, cn0]; done)) rfl) ?_
        refine VL.new1 (.inl rfl) rfl (by decide) (yn_alloc rfl zero93_Dv rfl) ?_
        intro b8
        refine VL.s (.inl rfl) rfl (yc_store rfl sz93_Dv rfl rfl (by repeat (first | exact UpdF.here | apply UpdF.there | apply UpdF.thereS)) (.inr ⟨rfl, rfl⟩) rfl (by first | exact Nat.le_of_ble_eq_true rfl | simp) (by decide) rfl) ?_
        rintro ⟨⟩
        refine VL.nil ?_
        refine VE.then_wp ?_
        refine V.seq ?_
        refine V.seq ?_
        refine V.region ?_
        refine VL.r (.inl rfl) rfl (by decide) (yr_move rfl rfl) ?_
        refine VL.c (.inl rfl) rfl (by decide) (yc_callf rfl known35_Dv (.cons rfl (.cons rfl .nil)) (by apply Pick.one; repeat (first | exact Rem.here | apply Rem.there | apply Rem.thereS)) (c_pickG (m := 4) hA hb hl (by (try dsimp only); omega) (by (try dsimp only); omega) (by (try dsimp only); omega) (by (try dsimp only); omega))) ?_
        rintro ⟨⟨x54, n54, s54⟩, hx54, hs54, hn54, hm54⟩
        dsimp only at hx54 hs54 hn54 hm54
        refine VL.r (.inl rfl) rfl (by decide) (yr_addN (2 + x54) rfl rfl rfl (by push_cast; rfl) (by omega)) ?_
        refine VL.r (.inl rfl) rfl (by decide) (yr_assign rfl rfl) ?_
        refine VL.nil ?_
        refine VE.then_wp ?_
        refine V.block ?_
        refine V.loopc (G := (List V3) × (Option Addr) × Nat × Nat × Nat) [(0, _), (2, _), (8, _)] (fun ⟨vs, ar, cr, nn, sd1⟩ => vs.length ≤ (2 + x54) ∧ (n ≤ nn ∧ nn ≤ n + 10 + 6 * vs.length) ∧ sd1 < 18446744073709551616) (fun ⟨vs, ar, cr, nn, sd1⟩ => (⟨ar, vl vs, cr * 3, 101⟩ :: ⟨some ⟨q, 0, none⟩, [.slice a bs.length c, .int .i64 ((nn : Nat) : Int), .int .u64 ((sd1 : Nat) : Int)], 3, 87⟩ :: ⟨some ⟨b8, 0, none⟩, [.slice ar vs.length cr, .bool v50, .float .f32 (fop .quo .f32 (FloatKind.f32.nearest ((x12 : Int) - 8)) 1082130432)], 3, 93⟩ :: ⟨some ⟨b2, 0, none⟩, [.slice none 0 0, .bool false, .float .f32 0], 3, 93⟩ :: F)) (fun ⟨vs, ar, cr, nn, sd1⟩ => [(9, .int .i64 (((2 + x54) - vs.length : Nat) : Int))]) (fun ⟨vs, ar, cr, nn, sd1⟩ => (2 + x54) - vs.length) ([], some ⟨b48, 0, none⟩, 0, n54, s54) (.cons rfl (.cons rfl (.cons rfl .nil))) (.cons rfl .nil) ?_ ?_ ?_
        · exact (fun w hw => hw.pick (by apply Pick.cons1; (· repeat (first | exact Rem.here | exact Rem.all | exact Rem.hereS | apply Rem.there | apply Rem.thereS)); apply Pick.cons1; (· repeat (first | exact Rem.here | exact Rem.all | exact Rem.hereS | apply Rem.there | apply Rem.thereS)); apply Pick.cons1; (· repeat (first | exact Rem.here | exact Rem.all | exact Rem.hereS | apply Rem.there | apply Rem.thereS)); apply Pick.cons1; (· repeat (first | exact Rem.here | exact Rem.all | exact Rem.hereS | apply Rem.there | apply Rem.thereS)); apply Pick.last; repeat (first | exact Rem.here | exact Rem.all | exact Rem.hereS | apply Rem.there | apply Rem.thereS)))
        · exact (by exact ⟨Nat.zero_le _, ⟨by (try dsimp only); omega, by (try dsimp only); simp only [List.length_nil]; omega⟩, hs54⟩)
        rintro ⟨vs, ar, cr, nn, sd1⟩ ⟨hl9, hn9, hs9⟩
        show V _ _ _ (⟨ar, vl vs, cr * 3, 101⟩ :: ⟨some ⟨q, 0, none⟩, [.slice a bs.length c, .int .i64 ((nn : Nat) : Int), .int .u64 ((sd1 : Nat) : Int)], 3, 87⟩ :: ⟨some ⟨b8, 0, none⟩, [.slice ar vs.length cr, .bool v50, .float .f32 (fop .quo .f32 (FloatKind.f32.nearest ((x12 : Int) - 8)) 1082130432)], 3, 93⟩ :: ⟨some ⟨b2, 0, none⟩, [.slice none 0 0, .bool false, .float .f32 0], 3, 93⟩ :: F) ([(9, .int .i64 (((2 + x54) - vs.length : Nat) : Int))] ++ [(0, _), (2, _), (8, _)]) _ _
        refine V.seq ?_
        refine V.seq ?_
        refine V.region ?_
        refine VL.r (.inl rfl) rfl (by decide) (yr_move rfl rfl) ?_
        refine VL.r (.inl rfl) rfl (by decide) (yr_icmp rfl (.inr (.inr (.inr (.inr (.inl rfl))))) rfl rfl) ?_
        refine VL.nil ?_
        refine VE.then_wp ?_
        refine V.cond rfl (fun h4 => ?_) (fun h4 => ?_)
        · skip
          replace h4 := ic_gtr h4
          refine V.skip ?_
          refine VE.then_wp ?_
          refine V.seq ?_
          refine V.block ?_
          refine V.seq ?_
          refine V.region ?_
          refine VL.r (.inl rfl) rfl (by decide) (yr_move rfl rfl) ?_
          refine VL.c (.inl rfl) rfl (by decide) (yc_callf rfl known53_Dv (.cons rfl .nil) (by apply Pick.one; repeat (first | exact Rem.here | apply Rem.there | apply Rem.thereS)) (c_small hA hb hl (by (try dsimp only); omega) (by (try dsimp only); omega))) ?_
          rintro ⟨⟨v61, n61, s61⟩, hv61, hs61, hn61, hm61⟩
          dsimp only at hv61 hs61 hn61 hm61
          refine VL.r (.inl rfl) rfl (by decide) (yr_build rfl lay101_Dv rfl (.cons rfl .nil) (by first | (simp; done) | (simp [vv]; done) | (simp [cn, cn1, cn0]; done)) rfl) ?_
          refine VL.new1 (.inl rfl) rfl (by decide) (yn_alloc rfl zero101_Dv rfl) ?_
          intro b10
          refine VL.s (.inl rfl) rfl (yc_store rfl sz101_Dv rfl rfl (by repeat (first | exact UpdF.here | apply UpdF.there | apply UpdF.thereS)) (.inr ⟨rfl, rfl⟩) rfl (by first | exact Nat.le_of_ble_eq_true rfl | simp) (by decide) rfl) ?_
          rintro ⟨⟩
          refine VL.nil ?_
          refine VE.then_wp ?_
          refine V.seq ?_
          refine V.region ?_
          refine VL.r (.inl rfl) rfl (by decide) (yr_move rfl rfl) ?_
          refine VL.c (.inl rfl) rfl (by decide) (yc_callf rfl known53_Dv (.cons rfl .nil) (by apply Pick.one; repeat (first | exact Rem.here | apply Rem.there | apply Rem.thereS)) (c_small hA hb hl (by (try dsimp only); omega) (by (try dsimp only); omega))) ?_
          rintro ⟨⟨v64, n64, s64⟩, hv64, hs64, hn64, hm64⟩
          dsimp only at hv64 hs64 hn64 hm64
          refine VL.r (.inl rfl) rfl (by decide) (yr_fieldAddr rfl Tryd.underlying101 rfl rfl sz90_Dv (by decide) rfl) ?_
          refine VL.s (.inl rfl) rfl (yc_store rfl sz90_Dv rfl rfl (by repeat (first | exact UpdF.here | apply UpdF.there | apply UpdF.thereS)) (.inl ⟨rfl, rfl⟩) rfl (by first | exact Nat.le_of_ble_eq_true rfl | simp) (by decide) rfl) ?_
          rintro ⟨⟩
          refine VL.nil ?_
          refine VE.then_wp ?_
          refine V.seq ?_
          refine V.region ?_
          refine VL.r (.inl rfl) rfl (by decide) (yr_move rfl rfl) ?_
          refine VL.c (.inl rfl) rfl (by decide) (yc_callf rfl known53_Dv (.cons rfl .nil) (by apply Pick.one; repeat (first | exact Rem.here | apply Rem.there | apply Rem.thereS)) (c_small hA hb hl (by (try dsimp only); omega) (by (try dsimp only); omega))) ?_
          rintro ⟨⟨v67, n67, s67⟩, hv67, hs67, hn67, hm67⟩
          dsimp only at hv67 hs67 hn67 hm67
          refine VL.r (.inl rfl) rfl (by decide) (yr_fieldAddr rfl Tryd.underlying101 rfl rfl sz90_Dv (by decide) rfl) ?_
          refine VL.s (.inl rfl) rfl (yc_store rfl sz90_Dv rfl rfl (by repeat (first | exact UpdF.here | apply UpdF.there | apply UpdF.thereS)) (.inl ⟨rfl, rfl⟩) rfl (by first | exact Nat.le_of_ble_eq_true rfl | simp) (by decide) rfl) ?_
          rintro ⟨⟩
          refine VL.nil ?_
          refine VE.then_wp ?_
          refine V.region ?_
          refine VL.r (.inl rfl) rfl (by decide) (yr_fieldAddr rfl Tryd.underlying93 rfl rfl sz91_Dv (by decide) rfl) ?_
          refine VL.q (.inl rfl) rfl (by decide) (yq_load rfl fb91_Dv rfl (by first | exact Sees.root (by assumption) | exact Sees.own (by repeat (first | exact List.mem_cons_self | exact List.mem_append_left _ (by assumption) | apply List.mem_cons_of_mem | apply List.mem_append_right)) | exact Sees.root (hR _ (by omega)) | exact Sees.own (RowsIn.mem (by repeat (first | exact RowsIn.here | exact RowsIn.last | apply RowsIn.there | apply RowsIn.thereS)) _ (by omega)) | exact Sees.own (WRowsIn.mem (by repeat (first | exact WRowsIn.here | exact WRowsIn.last | apply WRowsIn.there | apply WRowsIn.thereS)) _ (by omega))) rfl) ?_
          refine VL.q (.inl rfl) rfl (by decide) (yq_loadS rfl Tryd.underlying101 sz101_Dv rfl (by first | exact Sees.root (by assumption) | exact Sees.own (by repeat (first | exact List.mem_cons_self | exact List.mem_append_left _ (by assumption) | apply List.mem_cons_of_mem | apply List.mem_append_right)) | exact Sees.root (hR _ (by omega)) | exact Sees.own (RowsIn.mem (by repeat (first | exact RowsIn.here | exact RowsIn.last | apply RowsIn.there | apply RowsIn.thereS)) _ (by omega)) | exact Sees.own (WRowsIn.mem (by repeat (first | exact WRowsIn.here | exact WRowsIn.last | apply WRowsIn.there | apply WRowsIn.thereS)) _ (by omega))) rfl rfl rfl) ?_
          refine VL.new1 (.inl rfl) rfl (by decide) (yn_buildSlice rfl Tryd.underlying91 elt101_Dv rfl (by decide) (.cons rfl .nil) (by first | (simp; done) | (simp [vv]; done)) rfl rfl) ?_
          intro b72
          refine VL.c (.inl rfl) rfl (by decide) (yc_appendz 3 rfl rfl Tryd.underlying91 elt101_Dv rfl rfl (by repeat (first | exact UpdF.here | apply UpdF.there | apply UpdF.thereS)) (by first | exact Sees.root (by assumption) | exact Sees.own (by repeat (first | exact List.mem_cons_self | exact List.mem_append_left _ (by assumption) | apply List.mem_cons_of_mem | apply List.mem_append_right)) | exact Sees.root (hR _ (by omega)) | exact Sees.own (RowsIn.mem (by repeat (first | exact RowsIn.here | exact RowsIn.last | apply RowsIn.there | apply RowsIn.thereS)) _ (by omega)) | exact Sees.own (WRowsIn.mem (by repeat (first | exact WRowsIn.here | exact WRowsIn.last | apply WRowsIn.there | apply WRowsIn.thereS)) _ (by omega))) rfl (by first | (rw [vl_length]; done) | rfl) rfl (by first | rfl | exact vl_scal _) rfl (by omega) (by omega)) ?_
          rintro ⟨a73, c73⟩
          refine VL.r (.inl rfl) rfl (by decide) (yr_fieldAddr rfl Tryd.underlying93 rfl rfl sz91_Dv (by decide) rfl) ?_
          refine VL.s (.inl rfl) rfl (yc_store rfl sz91_Dv rfl rfl (by repeat (first | exact UpdF.here | apply UpdF.there | apply UpdF.thereS)) (.inl ⟨rfl, rfl⟩) rfl (by first | exact Nat.le_of_ble_eq_true rfl | simp) (by decide) rfl) ?_
          rintro ⟨⟩
          refine VL.nil ?_
          refine VE.block_normal ?_
          refine VE.then_wp ?_
          refine V.region ?_
          refine VL.r (.inl rfl) rfl (by decide) (yr_move rfl rfl) ?_
          refine VL.r (.inl rfl) rfl (by decide) (yr_int rfl rfl rfl (.inr (.inl ⟨rfl, wrap_in (by (try dsimp only); omega)⟩))) ?_
          refine VL.r (.inl rfl) rfl (by decide) (yr_assign rfl rfl) ?_
          refine VL.nil ?_
          refine VE.round (vs ++ [(v61, v64, v67)], a73, c73, n67, s67) ?_ ?_ ?_ ?_ ?_
          · exact (.cons (congrArg (fun i => some (Value.int .i64 i)) (by rw [List.length_append]; show _ = (((2 + x54) - (vs.length + 1) : Nat) : Int); omega)) .nil)
          · exact (.cons rfl (.cons rfl (.cons rfl .nil)))
          · exact (fun w hw => by dsimp only; rw [← vl_snoc, List.length_append]; exact hw.pick (by apply Pick.cons1; (· repeat (first | exact Rem.here | exact Rem.all | exact Rem.hereS | apply Rem.there | apply Rem.thereS)); apply Pick.cons1; (· repeat (first | exact Rem.here | exact Rem.all | exact Rem.hereS | apply Rem.there | apply Rem.thereS)); apply Pick.cons1; (· repeat (first | exact Rem.here | exact Rem.all | exact Rem.hereS | apply Rem.there | apply Rem.thereS)); apply Pick.cons1; (· repeat (first | exact Rem.here | exact Rem.all | exact Rem.hereS | apply Rem.there | apply Rem.thereS)); apply Pick.last; repeat (first | exact Rem.here | exact Rem.all | exact Rem.hereS | apply Rem.there | apply Rem.thereS)))
          · dsimp only
            rw [List.length_append]
            exact ⟨by show vs.length + 1 ≤ (2 + x54); omega, ⟨by omega, by show n67 ≤ n + 10 + 6 * (vs.length + 1); omega⟩, hs67⟩
          · dsimp only; rw [List.length_append]; show (2 + x54) - (vs.length + 1) < (2 + x54) - vs.length; omega
        · skip
          replace h4 := ic_gtr' h4
          refine V.exit ?_
          refine VE.then_exit ?_
          refine VE.then_exit ?_
          refine VE.block_here ?_
          refine VE.then_wp ?_
          refine V.seq ?_
          refine V.region ?_
          refine VL.q (.inl rfl) rfl (by decide) (yq_loadS rfl Tryd.underlying93 sz93_Dv rfl (by first | exact Sees.root (by assumption) | exact Sees.own (by repeat (first | exact List.mem_cons_self | exact List.mem_append_left _ (by assumption) | apply List.mem_cons_of_mem | apply List.mem_append_right)) | exact Sees.root (hR _ (by omega)) | exact Sees.own (RowsIn.mem (by repeat (first | exact RowsIn.here | exact RowsIn.last | apply RowsIn.there | apply RowsIn.thereS)) _ (by omega)) | exact Sees.own (WRowsIn.mem (by repeat (first | exact WRowsIn.here | exact WRowsIn.last | apply WRowsIn.there | apply WRowsIn.thereS)) _ (by omega))) rfl rfl rfl) ?_
          refine VL.s (.inl rfl) rfl (yc_store rfl sz93_Dv rfl rfl (by repeat (first | exact UpdF.here | apply UpdF.there | apply UpdF.thereS)) (.inr ⟨rfl, rfl⟩) rfl (by first | exact Nat.le_of_ble_eq_true rfl | simp) (by decide) rfl) ?_
          rintro ⟨⟩
          refine VL.nil ?_
          refine VE.then_wp ?_
          refine V.ret ?_
          refine retC rfl (rv_cellS rfl Tryd.underlying93 sz93_Dv (by first | exact Sees.root (by assumption) | exact Sees.own (by repeat (first | exact List.mem_cons_self | exact List.mem_append_left _ (by assumption) | apply List.mem_cons_of_mem | apply List.mem_append_right)) | exact Sees.root (hR _ (by omega)) | exact Sees.own (RowsIn.mem (by repeat (first | exact RowsIn.here | exact RowsIn.last | apply RowsIn.there | apply RowsIn.thereS)) _ (by omega)) | exact Sees.own (WRowsIn.mem (by repeat (first | exact WRowsIn.here | exact WRowsIn.last | apply WRowsIn.there | apply WRowsIn.thereS)) _ (by omega))) rfl rfl rfl) (by nofun) (fun w1 hw => ?_)
          exact ⟨⟨((((ar, cr), ⟨vs, by omega⟩), v50, (fop .quo .f32 (FloatKind.f32.nearest ((x12 : Int) - 8)) 1082130432)), nn, sd1), trivial, by assumption, by (try dsimp only); omega, by (try dsimp only); omega⟩, rfl, hw.pick (by apply Pick.app1; (· repeat (first | exact Rem.here | exact Rem.all | exact Rem.hereS | apply Rem.there | apply Rem.thereS)); apply Pick.cons1; (· repeat (first | exact Rem.here | exact Rem.all | exact Rem.hereS | apply Rem.there | apply Rem.thereS)); apply Pick.cons1; (· repeat (first | exact Rem.here | exact Rem.all | exact Rem.hereS | apply Rem.there | apply Rem.thereS)); exact Pick.nil)⟩
    · skip
      replace h2 := ic_eql' h2
      refine V.skip ?_
      refine VE.block_normal ?_
      refine VE.then_wp ?_
      refine V.seq ?_
      refine V.region ?_
      refine VL.new1 (.inl rfl) rfl (by decide) (yn_buildSlice rfl Tryd.underlying91 elt101_Dv rfl (by decide) .nil (by first | (simp; done) | (simp [vv]; done)) rfl rfl) ?_
      intro b48
      refine VL.r (.inl rfl) rfl (by decide) (yr_move rfl rfl) ?_
      refine VL.c (.inl rfl) rfl (by decide) (yc_callf rfl known54_Dv (.cons rfl (.cons rfl .nil)) (by apply Pick.one; repeat (first | exact Rem.here | apply Rem.there | apply Rem.thereS)) (c_one (m := 2) hA hb hl (by (try dsimp only); omega) (by (try dsimp only); omega) (by decide) (by decide))) ?_
      rintro ⟨⟨v50, n50, s50⟩, hv50, hs50, hn50, hm50⟩
      dsimp only at hv50 hs50 hn50 hm50
      refine VL.r (.inl rfl) rfl (by decide) (yr_move rfl rfl) ?_
      refine VL.r (.inl rfl) rfl (by decide) (yr_build rfl lay93_Dv rfl (.cons rfl (.cons rfl (.cons rfl .nil))) (by first | (simp; done) | (simp [vv]; done) | (simp [cn, cn1, cn0]; done)) rfl) ?_
      refine VL.new1 (.inl rfl) rfl (by decide) (yn_alloc rfl zero93_Dv rfl) ?_
      intro b8
      refine VL.s (.inl rfl) rfl (yc_store rfl sz93_Dv rfl rfl (by repeat (first | exact UpdF.here | apply UpdF.there | apply UpdF.thereS)) (.inr ⟨rfl, rfl⟩) rfl (by first | exact Nat.le_of_ble_eq_true rfl | simp) (by decide) rfl) ?_
      rintro ⟨⟩
      refine VL.nil ?_
      refine VE.then_wp ?_
      refine V.seq ?_
      refine V.seq ?_
      refine V.region ?_
      refine VL.r (.inl rfl) rfl (by decide) (yr_move rfl rfl) ?_
      refine VL.c (.inl rfl) rfl (by decide) (yc_callf rfl known35_Dv (.cons rfl (.cons rfl .nil)) (by apply Pick.one; repeat (first | exact Rem.here | apply Rem.there | apply Rem.thereS)) (c_pickG (m := 4) hA hb hl (by (try dsimp only); omega) (by (try dsimp only); omega) (by (try dsimp only); omega) (by (try dsimp only); omega))) ?_
      rintro ⟨⟨x54, n54, s54⟩, hx54, hs54, hn54, hm54⟩
      dsimp only at hx54 hs54 hn54 hm54
      refine VL.r (.inl rfl) rfl (by decide) (yr_addN (2 + x54) rfl rfl rfl (by push_cast; rfl) (by omega)) ?_
      refine VL.r (.inl rfl) rfl (by decide) (yr_assign rfl rfl) ?_
      refine VL.nil ?_
      refine VE.then_wp ?_
      refine V.block ?_
      refine V.loopc (G := (List V3) × (Option Addr) × Nat × Nat × Nat) [(0, _), (2, _), (8, _)] (fun ⟨vs, ar, cr, nn, sd1⟩ => vs.length ≤ (2 + x54) ∧ (n ≤ nn ∧ nn ≤ n + 10 + 6 * vs.length) ∧ sd1 < 18446744073709551616) (fun ⟨vs, ar, cr, nn, sd1⟩ => (⟨ar, vl vs, cr * 3, 101⟩ :: ⟨some ⟨q, 0, none⟩, [.slice a bs.length c, .int .i64 ((nn : Nat) : Int), .int .u64 ((sd1 : Nat) : Int)], 3, 87⟩ :: ⟨some ⟨b8, 0, none⟩, [.slice ar vs.length cr, .bool v50, .float .f32 (fop .quo .f32 (FloatKind.f32.nearest ((x12 : Int) - 8)) 1082130432)], 3, 93⟩ :: ⟨some ⟨b2, 0, none⟩, [.slice none 0 0, .bool false, .float .f32 0], 3, 93⟩ :: F)) (fun ⟨vs, ar, cr, nn, sd1⟩ => [(9, .int .i64 (((2 + x54) - vs.length : Nat) : Int))]) (fun ⟨vs, ar, cr, nn, sd1⟩ => (2 + x54) - vs.length) ([], some ⟨b48, 0, none⟩, 0, n54, s54) (.cons rfl (.cons rfl (.cons rfl .nil))) (.cons rfl .nil) ?_ ?_ ?_
      · exact (fun w hw => hw.pick (by apply Pick.cons1; (· repeat (first | exact Rem.here | exact Rem.all | exact Rem.hereS | apply Rem.there | apply Rem.thereS)); apply Pick.cons1; (· repeat (first | exact Rem.here | exact Rem.all | exact Rem.hereS | apply Rem.there | apply Rem.thereS)); apply Pick.cons1; (· repeat (first | exact Rem.here | exact Rem.all | exact Rem.hereS | apply Rem.there | apply Rem.thereS)); apply Pick.cons1; (· repeat (first | exact Rem.here | exact Rem.all | exact Rem.hereS | apply Rem.there | apply Rem.thereS)); apply Pick.last; repeat (first | exact Rem.here | exact Rem.all | exact Rem.hereS | apply Rem.there | apply Rem.thereS)))
      · exact (by exact ⟨Nat.zero_le _, ⟨by (try dsimp only); omega, by (try dsimp only); simp only [List.length_nil]; omega⟩, hs54⟩)
      rintro ⟨vs, ar, cr, nn, sd1⟩ ⟨hl9, hn9, hs9⟩
      show V _ _ _ (⟨ar, vl vs, cr * 3, 101⟩ :: ⟨some ⟨q, 0, none⟩, [.slice a bs.length c, .int .i64 ((nn : Nat) : Int), .int .u64 ((sd1 : Nat) : Int)], 3, 87⟩ :: ⟨some ⟨b8, 0, none⟩, [.slice ar vs.length cr, .bool v50, .float .f32 (fop .quo .f32 (FloatKind.f32.nearest ((x12 : Int) - 8)) 1082130432)], 3, 93⟩ :: ⟨some ⟨b2, 0, none⟩, [.slice none 0 0, .bool false, .float .f32 0], 3, 93⟩ :: F) ([(9, .int .i64 (((2 + x54) - vs.length : Nat) : Int))] ++ [(0, _), (2, _), (8, _)]) _ _
      refine V.seq ?_
      refine V.seq ?_
      refine V.region ?_
      refine VL.r (.inl rfl) rfl (by decide) (yr_move rfl rfl) ?_
      refine VL.r (.inl rfl) rfl (by decide) (yr_icmp rfl (.inr (.inr (.inr (.inr (.inl rfl))))) rfl rfl) ?_
      refine VL.nil ?_
      refine VE.then_wp ?_
      refine V.cond rfl (fun h5 => ?_) (fun h5 => ?_)
      · skip
        replace h5 := ic_gtr h5
        refine V.skip ?_
        refine VE.then_wp ?_
        refine V.seq ?_
        refine V.block ?_
        refine V.seq ?_
        refine V.region ?_
        refine VL.r (.inl rfl) rfl (by decide) (yr_move rfl rfl) ?_
        refine VL.c (.inl rfl) rfl (by decide) (yc_callf rfl known53_Dv (.cons rfl .nil) (by apply Pick.one; repeat (first | exact Rem.here | apply Rem.there | apply Rem.thereS)) (c_small hA hb hl (by (try dsimp only); omega) (by (try dsimp only); omega))) ?_
        rintro ⟨⟨v61, n61, s61⟩, hv61, hs61, hn61, hm61⟩
        dsimp only at hv61 hs61 hn61 hm61
        refine VL.r (.inl rfl) rfl (by decide) (yr_build rfl lay101_Dv rfl (.cons rfl .nil) (by first | (simp; done) | (simp [vv]; done) | (simp [cn, cn1, cn0]; done)) rfl) ?_
        refine VL.new1 (.inl rfl) rfl (by decide) (yn_alloc rfl zero101_Dv rfl) ?_
        intro b10
        refine VL.s (.inl rfl) rfl (yc_store rfl sz101_Dv rfl rfl (by repeat (first | exact UpdF.here | apply UpdF.there | apply UpdF.thereS)) (.inr ⟨rfl, rfl⟩) rfl (by first | exact Nat.le_of_ble_eq_true rfl | simp) (by decide) rfl) ?_
        rintro ⟨⟩
        refine VL.nil ?_
        refine VE.then_wp ?_
        refine V.seq ?_
        refine V.region ?_
        refine VL.r (.inl rfl) rfl (by decide) (yr_move rfl rfl) ?_
        refine VL.c (.inl rfl) rfl (by decide) (yc_callf rfl known53_Dv (.cons rfl .nil) (by apply Pick.one; repeat (first | exact Rem.here | apply Rem.there | apply Rem.thereS)) (c_small hA hb hl (by (try dsimp only); omega) (by (try dsimp only); omega))) ?_
        rintro ⟨⟨v64, n64, s64⟩, hv64, hs64, hn64, hm64⟩
        dsimp only at hv64 hs64 hn64 hm64
        refine VL.r (.inl rfl) rfl (by decide) (yr_fieldAddr rfl Tryd.underlying101 rfl rfl sz90_Dv (by decide) rfl) ?_
        refine VL.s (.inl rfl) rfl (yc_store rfl sz90_Dv rfl rfl (by repeat (first | exact UpdF.here | apply UpdF.there | apply UpdF.thereS)) (.inl ⟨rfl, rfl⟩) rfl (by first | exact Nat.le_of_ble_eq_true rfl | simp) (by decide) rfl) ?_
        rintro ⟨⟩
        refine VL.nil ?_
        refine VE.then_wp ?_
        refine V.seq ?_
        refine V.region ?_
        refine VL.r (.inl rfl) rfl (by decide) (yr_move rfl rfl) ?_
        refine VL.c (.inl rfl) rfl (by decide) (yc_callf rfl known53_Dv (.cons rfl .nil) (by apply Pick.one; repeat (first | exact Rem.here | apply Rem.there | apply Rem.thereS)) (c_small hA hb hl (by (try dsimp only); omega) (by (try dsimp only); omega))) ?_
        rintro ⟨⟨v67, n67, s67⟩, hv67, hs67, hn67, hm67⟩
        dsimp only at hv67 hs67 hn67 hm67
        refine VL.r (.inl rfl) rfl (by decide) (yr_fieldAddr rfl Tryd.underlying101 rfl rfl sz90_Dv (by decide) rfl) ?_
        refine VL.s (.inl rfl) rfl (yc_store rfl sz90_Dv rfl rfl (by repeat (first | exact UpdF.here | apply UpdF.there | apply UpdF.thereS)) (.inl ⟨rfl, rfl⟩) rfl (by first | exact Nat.le_of_ble_eq_true rfl | simp) (by decide) rfl) ?_
        rintro ⟨⟩
        refine VL.nil ?_
        refine VE.then_wp ?_
        refine V.region ?_
        refine VL.r (.inl rfl) rfl (by decide) (yr_fieldAddr rfl Tryd.underlying93 rfl rfl sz91_Dv (by decide) rfl) ?_
        refine VL.q (.inl rfl) rfl (by decide) (yq_load rfl fb91_Dv rfl (by first | exact Sees.root (by assumption) | exact Sees.own (by repeat (first | exact List.mem_cons_self | exact List.mem_append_left _ (by assumption) | apply List.mem_cons_of_mem | apply List.mem_append_right)) | exact Sees.root (hR _ (by omega)) | exact Sees.own (RowsIn.mem (by repeat (first | exact RowsIn.here | exact RowsIn.last | apply RowsIn.there | apply RowsIn.thereS)) _ (by omega)) | exact Sees.own (WRowsIn.mem (by repeat (first | exact WRowsIn.here | exact WRowsIn.last | apply WRowsIn.there | apply WRowsIn.thereS)) _ (by omega))) rfl) ?_
        refine VL.q (.inl rfl) rfl (by decide) (yq_loadS rfl Tryd.underlying101 sz101_Dv rfl (by first | exact Sees.root (by assumption) | exact Sees.own (by repeat (first | exact List.mem_cons_self | exact List.mem_append_left _ (by assumption) | apply List.mem_cons_of_mem | apply List.mem_append_right)) | exact Sees.root (hR _ (by omega)) | exact Sees.own (RowsIn.mem (by repeat (first | exact RowsIn.here | exact RowsIn.last | apply RowsIn.there | apply RowsIn.thereS)) _ (by omega)) | exact Sees.own (WRowsIn.mem (by repeat (first | exact WRowsIn.here | exact WRowsIn.last | apply WRowsIn.there | apply WRowsIn.thereS)) _ (by omega))) rfl rfl rfl) ?_
        refine VL.new1 (.inl rfl) rfl (by decide) (yn_buildSlice rfl Tryd.underlying91 elt101_Dv rfl (by decide) (.cons rfl .nil) (by first | (simp; done) | (simp [vv]; done)) rfl rfl) ?_
        intro b72
        refine VL.c (.inl rfl) rfl (by decide) (yc_appendz 3 rfl rfl Tryd.underlying91 elt101_Dv rfl rfl (by repeat (first | exact UpdF.here | apply UpdF.there | apply UpdF.thereS)) (by first | exact Sees.root (by assumption) | exact Sees.own (by repeat (first | exact List.mem_cons_self | exact List.mem_append_left _ (by assumption) | apply List.mem_cons_of_mem | apply List.mem_append_right)) | exact Sees.root (hR _ (by omega)) | exact Sees.own (RowsIn.mem (by repeat (first | exact RowsIn.here | exact RowsIn.last | apply RowsIn.there | apply RowsIn.thereS)) _ (by omega)) | exact Sees.own (WRowsIn.mem (by repeat (first | exact WRowsIn.here | exact WRowsIn.last | apply WRowsIn.there | apply WRowsIn.thereS)) _ (by omega))) rfl (by first | (rw [vl_length]; done) | rfl) rfl (by first | rfl | exact vl_scal _) rfl (by omega) (by omega)) ?_
        rintro ⟨a73, c73⟩
        refine VL.r (.inl rfl) rfl (by decide) (yr_fieldAddr rfl Tryd.underlying93 rfl rfl sz91_Dv (by decide) rfl) ?_
        refine VL.s (.inl rfl) rfl (yc_store rfl sz91_Dv rfl rfl (by repeat (first | exact UpdF.here | apply UpdF.there | apply UpdF.thereS)) (.inl ⟨rfl, rfl⟩) rfl (by first | exact Nat.le_of_ble_eq_true rfl | simp) (by decide) rfl) ?_
        rintro ⟨⟩
        refine VL.nil ?_
        refine VE.block_normal ?_
        refine VE.then_wp ?_
        refine V.region ?_
        refine VL.r (.inl rfl) rfl (by decide) (yr_move rfl rfl) ?_
        refine VL.r (.inl rfl) rfl (by decide) (yr_int rfl rfl rfl (.inr (.inl ⟨rfl, wrap_in (by (try dsimp only); omega)⟩))) ?_
        refine VL.r (.inl rfl) rfl (by decide) (yr_assign rfl rfl) ?_
        refine VL.nil ?_
        refine VE.round (vs ++ [(v61, v64, v67)], a73, c73, n67, s67) ?_ ?_ ?_ ?_ ?_
        · exact (.cons (congrArg (fun i => some (Value.int .i64 i)) (by rw [List.length_append]; show _ = (((2 + x54) - (vs.length + 1) : Nat) : Int); omega)) .nil)
        · exact (.cons rfl (.cons rfl (.cons rfl .nil)))
        · exact (fun w hw => by dsimp only; rw [← vl_snoc, List.length_append]; exact hw.pick (by apply Pick.cons1; (· repeat (first | exact Rem.here | exact Rem.all | exact Rem.hereS | apply Rem.there | apply Rem.thereS)); apply Pick.cons1; (· repeat (first | exact Rem.here | exact Rem.all | exact Rem.hereS | apply Rem.there | apply Rem.thereS)); apply Pick.cons1; (· repeat (first | exact Rem.here | exact Rem.all | exact Rem.hereS | apply Rem.there | apply Rem.thereS)); apply Pick.cons1; (· repeat (first | exact Rem.here | exact Rem.all | exact Rem.hereS | apply Rem.there | apply Rem.thereS)); apply Pick.last; repeat (first | exact Rem.here | exact Rem.all | exact Rem.hereS | apply Rem.there | apply Rem.thereS)))
        · dsimp only
          rw [List.length_append]
          exact ⟨by show vs.length + 1 ≤ (2 + x54); omega, ⟨by omega, by show n67 ≤ n + 10 + 6 * (vs.length + 1); omega⟩, hs67⟩
        · dsimp only; rw [List.length_append]; show (2 + x54) - (vs.length + 1) < (2 + x54) - vs.length; omega
      · skip
        replace h5 := ic_gtr' h5
        refine V.exit ?_
        refine VE.then_exit ?_
        refine VE.then_exit ?_
        refine VE.block_here ?_
        refine VE.then_wp ?_
        refine V.seq ?_
        refine V.region ?_
        refine VL.q (.inl rfl) rfl (by decide) (yq_loadS rfl Tryd.underlying93 sz93_Dv rfl (by first | exact Sees.root (by assumption) | exact Sees.own (by repeat (first | exact List.mem_cons_self | exact List.mem_append_left _ (by assumption) | apply List.mem_cons_of_mem | apply List.mem_append_right)) | exact Sees.root (hR _ (by omega)) | exact Sees.own (RowsIn.mem (by repeat (first | exact RowsIn.here | exact RowsIn.last | apply RowsIn.there | apply RowsIn.thereS)) _ (by omega)) | exact Sees.own (WRowsIn.mem (by repeat (first | exact WRowsIn.here | exact WRowsIn.last | apply WRowsIn.there | apply WRowsIn.thereS)) _ (by omega))) rfl rfl rfl) ?_
        refine VL.s (.inl rfl) rfl (yc_store rfl sz93_Dv rfl rfl (by repeat (first | exact UpdF.here | apply UpdF.there | apply UpdF.thereS)) (.inr ⟨rfl, rfl⟩) rfl (by first | exact Nat.le_of_ble_eq_true rfl | simp) (by decide) rfl) ?_
        rintro ⟨⟩
        refine VL.nil ?_
        refine VE.then_wp ?_
        refine V.ret ?_
        refine retC rfl (rv_cellS rfl Tryd.underlying93 sz93_Dv (by first | exact Sees.root (by assumption) | exact Sees.own (by repeat (first | exact List.mem_cons_self | exact List.mem_append_left _ (by assumption) | apply List.mem_cons_of_mem | apply List.mem_append_right)) | exact Sees.root (hR _ (by omega)) | exact Sees.own (RowsIn.mem (by repeat (first | exact RowsIn.here | exact RowsIn.last | apply RowsIn.there | apply RowsIn.thereS)) _ (by omega)) | exact Sees.own (WRowsIn.mem (by repeat (first | exact WRowsIn.here | exact WRowsIn.last | apply WRowsIn.there | apply WRowsIn.thereS)) _ (by omega))) rfl rfl rfl) (by nofun) (fun w1 hw => ?_)
        exact ⟨⟨((((ar, cr), ⟨vs, by omega⟩), v50, (fop .quo .f32 (FloatKind.f32.nearest ((x12 : Int) - 8)) 1082130432)), nn, sd1), trivial, by assumption, by (try dsimp only); omega, by (try dsimp only); omega⟩, rfl, hw.pick (by apply Pick.app1; (· repeat (first | exact Rem.here | exact Rem.all | exact Rem.hereS | apply Rem.there | apply Rem.thereS)); apply Pick.cons1; (· repeat (first | exact Rem.here | exact Rem.all | exact Rem.hereS | apply Rem.there | apply Rem.thereS)); apply Pick.cons1; (· repeat (first | exact Rem.here | exact Rem.all | exact Rem.hereS | apply Rem.there | apply Rem.thereS)); exact Pick.nil)⟩

end Go.Proofs.YtmecikeaogjmpaaDoor

