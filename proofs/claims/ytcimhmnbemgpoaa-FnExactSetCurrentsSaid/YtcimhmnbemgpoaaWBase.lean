/- Walks: Base. Printed by gen.py. -/
import Derived.Test.YtcimhmnbemgpoaaFlo
import Derived.Test.YtcimhmnbemgpoaaProg
import Derived.KernelRfl
namespace Go.Proofs.Ytcimhmnbemgpoaa
open Go.RowKit
set_option linter.unusedVariables false
set_option linter.unusedSimpArgs false
set_option maxRecDepth 20000

theorem known97_Base : Known Try.prog 97 := Known.mk' Try.func97 (by kernel_rfl)
theorem known71_Base : Known Try.prog 71 := Known.mk' Try.func71 (by kernel_rfl)

theorem c_IsFinite {w : World} (x : Nat) : Pure Try.prog 97 [.float .f32 x] w (.bool (fin x)) := by
  refine Pure.enter Try.func97 rfl Try.ntmps97 (Nat.le_of_ble_eq_true rfl) ?_
  refine V.seq ?_
  refine V.region ?_
  refine VL.r (.inl rfl) rfl (by decide) (yr_assign (u := .bool false) rfl rfl) ?_
  refine VL.nil ?_
  refine VE.then_wp ?_
  refine V.seq ?_
  refine V.region ?_
  refine VL.r (.inl rfl) rfl (by decide) (yr_move rfl rfl) ?_
  refine VL.r (.inl rfl) rfl (by decide) (yr_move rfl rfl) ?_
  refine VL.r (.inl rfl) rfl (by decide) (yr_float rfl (.inr (.inl rfl)) rfl rfl) ?_
  refine VL.r (.inl rfl) rfl (by decide) (yr_fcmp (b := 0) rfl (.inl rfl) rfl rfl) ?_
  refine VL.r (.inl rfl) rfl (by decide) (yr_assign rfl rfl) ?_
  refine VL.nil ?_
  refine VE.then_wp ?_
  refine V.ret ?_
  refine ret1 rfl rfl (fun w1 hw => ?_)
  exact ⟨rfl, hw.below⟩

theorem c_l01Finite {w : World} (x : Nat) : Pure Try.prog 71 [.float .f32 x] w (.bool (fin x)) := by
  refine Pure.enter Try.func71 rfl Try.ntmps71 (Nat.le_of_ble_eq_true rfl) ?_
  refine V.seq ?_
  refine V.region ?_
  refine VL.r (.inl rfl) rfl (by decide) (yr_assign (u := .bool false) rfl rfl) ?_
  refine VL.nil ?_
  refine VE.then_wp ?_
  refine V.seq ?_
  refine V.region ?_
  refine VL.r (.inl rfl) rfl (by decide) (yr_move rfl rfl) ?_
  refine VL.r (.inl rfl) rfl (by decide) (yr_move rfl rfl) ?_
  refine VL.r (.inl rfl) rfl (by decide) (yr_float rfl (.inr (.inl rfl)) rfl rfl) ?_
  refine VL.r (.inl rfl) rfl (by decide) (yr_fcmp (b := 0) rfl (.inl rfl) rfl rfl) ?_
  refine VL.r (.inl rfl) rfl (by decide) (yr_assign rfl rfl) ?_
  refine VL.nil ?_
  refine VE.then_wp ?_
  refine V.ret ?_
  refine ret1 rfl rfl (fun w1 hw => ?_)
  exact ⟨rfl, hw.below⟩

theorem c_isLength {w : World} (x : Nat) : Pure Try.prog 113 [.float .f32 x] w (.bool (above x)) := by
  refine Pure.enter Try.func113 rfl Try.ntmps113 (Nat.le_of_ble_eq_true rfl) ?_
  refine V.seq ?_
  refine V.region ?_
  refine VL.r (.inl rfl) rfl (by decide) (yr_assign (u := .bool false) rfl rfl) ?_
  refine VL.nil ?_
  refine VE.then_wp ?_
  refine V.seq ?_
  refine V.region ?_
  refine VL.r (.inl rfl) rfl (by decide) (yr_move rfl rfl) ?_
  refine VL.q (.inl rfl) rfl (by decide) (yq_callf rfl known97_Base (.cons rfl .nil) (fun w hw => c_IsFinite _)) ?_
  refine VL.r (.inl rfl) rfl (by decide) (yr_move rfl rfl) ?_
  refine VX.split 5 _ rfl (fun h1 => ?_) (fun h1 => ?_)
  · skip
    refine VL.r (.inr ⟨_, _, _, rfl, rfl, rfl⟩) rfl (by decide) (yr_move rfl rfl) ?_
    refine VL.r (.inr ⟨_, _, _, rfl, rfl, rfl⟩) rfl (by decide) (yr_fcmp (b := 0) rfl (.inr (.inr (.inr (.inr (.inl rfl))))) rfl rfl) ?_
    refine VL.r (.inl rfl) rfl (by decide) (yr_pick_t rfl rfl rfl) ?_
    refine VL.r (.inl rfl) rfl (by decide) (yr_assign rfl rfl) ?_
    refine VL.nil ?_
    refine VE.then_wp ?_
    refine V.ret ?_
    refine ret1 rfl rfl (fun w1 hw => ?_)
    exact ⟨by simp only [above, *, Bool.true_and], hw.below⟩
  · skip
    refine VL.no rfl rfl rfl rfl rfl (by decide) ?_
    refine VL.no rfl rfl rfl rfl rfl (by decide) ?_
    refine VL.r (.inl rfl) rfl (by decide) (yr_pick_f (u := .bool false) rfl rfl rfl) ?_
    refine VL.r (.inl rfl) rfl (by decide) (yr_assign rfl rfl) ?_
    refine VL.nil ?_
    refine VE.then_wp ?_
    refine V.ret ?_
    refine ret1 rfl rfl (fun w1 hw => ?_)
    exact ⟨by simp only [above, *, Bool.false_and], hw.below⟩

theorem c_l03Above {w : World} (x : Nat) : Pure Try.prog 110 [.float .f32 x] w (.bool (above x)) := by
  refine Pure.enter Try.func110 rfl Try.ntmps110 (Nat.le_of_ble_eq_true rfl) ?_
  refine V.seq ?_
  refine V.region ?_
  refine VL.r (.inl rfl) rfl (by decide) (yr_assign (u := .bool false) rfl rfl) ?_
  refine VL.nil ?_
  refine VE.then_wp ?_
  refine V.seq ?_
  refine V.region ?_
  refine VL.r (.inl rfl) rfl (by decide) (yr_move rfl rfl) ?_
  refine VL.q (.inl rfl) rfl (by decide) (yq_callf rfl known71_Base (.cons rfl .nil) (fun w hw => c_l01Finite _)) ?_
  refine VL.r (.inl rfl) rfl (by decide) (yr_move rfl rfl) ?_
  refine VX.split 5 _ rfl (fun h1 => ?_) (fun h1 => ?_)
  · skip
    refine VL.r (.inr ⟨_, _, _, rfl, rfl, rfl⟩) rfl (by decide) (yr_move rfl rfl) ?_
    refine VL.r (.inr ⟨_, _, _, rfl, rfl, rfl⟩) rfl (by decide) (yr_fcmp (b := 0) rfl (.inr (.inr (.inr (.inr (.inl rfl))))) rfl rfl) ?_
    refine VL.r (.inl rfl) rfl (by decide) (yr_pick_t rfl rfl rfl) ?_
    refine VL.r (.inl rfl) rfl (by decide) (yr_assign rfl rfl) ?_
    refine VL.nil ?_
    refine VE.then_wp ?_
    refine V.ret ?_
    refine ret1 rfl rfl (fun w1 hw => ?_)
    exact ⟨by simp only [above, *, Bool.true_and], hw.below⟩
  · skip
    refine VL.no rfl rfl rfl rfl rfl (by decide) ?_
    refine VL.no rfl rfl rfl rfl rfl (by decide) ?_
    refine VL.r (.inl rfl) rfl (by decide) (yr_pick_f (u := .bool false) rfl rfl rfl) ?_
    refine VL.r (.inl rfl) rfl (by decide) (yr_assign rfl rfl) ?_
    refine VL.nil ?_
    refine VE.then_wp ?_
    refine V.ret ?_
    refine ret1 rfl rfl (fun w1 hw => ?_)
    exact ⟨by simp only [above, *, Bool.false_and], hw.below⟩

theorem c_l03Least {w : World} (x : Nat) : Pure Try.prog 96 [.float .f32 x] w (.bool (least x)) := by
  refine Pure.enter Try.func96 rfl Try.ntmps96 (Nat.le_of_ble_eq_true rfl) ?_
  refine V.seq ?_
  refine V.region ?_
  refine VL.r (.inl rfl) rfl (by decide) (yr_assign (u := .bool false) rfl rfl) ?_
  refine VL.nil ?_
  refine VE.then_wp ?_
  refine V.seq ?_
  refine V.region ?_
  refine VL.r (.inl rfl) rfl (by decide) (yr_move rfl rfl) ?_
  refine VL.q (.inl rfl) rfl (by decide) (yq_callf rfl known71_Base (.cons rfl .nil) (fun w hw => c_l01Finite _)) ?_
  refine VL.r (.inl rfl) rfl (by decide) (yr_move rfl rfl) ?_
  refine VX.split 5 _ rfl (fun h1 => ?_) (fun h1 => ?_)
  · skip
    refine VL.r (.inr ⟨_, _, _, rfl, rfl, rfl⟩) rfl (by decide) (yr_move rfl rfl) ?_
    refine VL.r (.inr ⟨_, _, _, rfl, rfl, rfl⟩) rfl (by decide) (yr_fcmp (b := 0) rfl (.inr (.inr (.inr (.inr (.inr rfl))))) rfl rfl) ?_
    refine VL.r (.inl rfl) rfl (by decide) (yr_pick_t rfl rfl rfl) ?_
    refine VL.r (.inl rfl) rfl (by decide) (yr_assign rfl rfl) ?_
    refine VL.nil ?_
    refine VE.then_wp ?_
    refine V.ret ?_
    refine ret1 rfl rfl (fun w1 hw => ?_)
    exact ⟨by simp only [least, *, Bool.true_and], hw.below⟩
  · skip
    refine VL.no rfl rfl rfl rfl rfl (by decide) ?_
    refine VL.no rfl rfl rfl rfl rfl (by decide) ?_
    refine VL.r (.inl rfl) rfl (by decide) (yr_pick_f (u := .bool false) rfl rfl rfl) ?_
    refine VL.r (.inl rfl) rfl (by decide) (yr_assign rfl rfl) ?_
    refine VL.nil ?_
    refine VE.then_wp ?_
    refine V.ret ?_
    refine ret1 rfl rfl (fun w1 hw => ?_)
    exact ⟨by simp only [least, *, Bool.false_and], hw.below⟩

theorem c_sameFloat {w : World} (x y : Nat) (hx : Can .f64 x) (hy : Can .f64 y) : Pure Try.prog 20 [.float .f64 x, .float .f64 y] w (.bool (x == y)) := by
  refine Pure.enter Try.func20 rfl Try.ntmps20 (Nat.le_of_ble_eq_true rfl) ?_
  refine V.seq ?_
  refine V.region ?_
  refine VL.r (.inl rfl) rfl (by decide) (yr_assign (u := .bool false) rfl rfl) ?_
  refine VL.nil ?_
  refine VE.then_wp ?_
  refine V.seq ?_
  refine V.seq ?_
  refine V.region ?_
  refine VL.r (.inl rfl) rfl (by decide) (yr_move rfl rfl) ?_
  refine VL.r (.inl rfl) rfl (by decide) (yr_move rfl rfl) ?_
  refine VL.r (.inl rfl) rfl (by decide) (yr_fcmp rfl (.inr (.inl rfl)) rfl rfl) ?_
  refine VL.r (.inl rfl) rfl (by decide) (yr_move rfl rfl) ?_
  refine VX.split 8 _ rfl (fun h1 => ?_) (fun h1 => ?_)
  · skip
    refine VL.no rfl rfl rfl rfl rfl (by decide) ?_
    refine VL.no rfl rfl rfl rfl rfl (by decide) ?_
    refine VL.no rfl rfl rfl rfl rfl (by decide) ?_
    refine VL.r (.inl rfl) rfl (by decide) (yr_pick_t (u := .bool true) rfl rfl rfl) ?_
    refine VL.nil ?_
    refine VE.then_wp ?_
    refine V.condT rfl ?_
    refine V.seq ?_
    refine V.region ?_
    refine VL.r (.inl rfl) rfl (by decide) (yr_move rfl rfl) ?_
    refine VL.r (.inl rfl) rfl (by decide) (yr_move rfl rfl) ?_
    refine VL.r (.inl rfl) rfl (by decide) (yr_fcmp rfl (.inr (.inl rfl)) rfl rfl) ?_
    refine VL.r (.inl rfl) rfl (by decide) (yr_move rfl rfl) ?_
    refine VX.split 16 _ rfl (fun h3 => ?_) (fun h3 => ?_)
    · skip
      refine VL.r (.inr ⟨_, _, _, rfl, rfl, rfl⟩) rfl (by decide) (yr_move rfl rfl) ?_
      refine VL.r (.inr ⟨_, _, _, rfl, rfl, rfl⟩) rfl (by decide) (yr_move rfl rfl) ?_
      refine VL.r (.inr ⟨_, _, _, rfl, rfl, rfl⟩) rfl (by decide) (yr_fcmp rfl (.inr (.inl rfl)) rfl rfl) ?_
      refine VL.r (.inl rfl) rfl (by decide) (yr_pick_t rfl rfl rfl) ?_
      refine VL.r (.inl rfl) rfl (by decide) (yr_assign rfl rfl) ?_
      refine VL.nil ?_
      refine VE.then_wp ?_
      refine V.ret ?_
      refine VE.then_ret ?_
      refine ret1 rfl rfl (fun w1 hw => ?_)
      refine ⟨?_, hw.below⟩
      simp only [fne_self, isz_of_feq0 hx, isz_of_feq0 hy] at *
      first
        | exact congrArg Value.bool (same_nanx hx hy (by assumption))
        | exact congrArg Value.bool (same_nany (by assumption) (by assumption)).symm
        | (exfalso; simp_all; done)
        | exact congrArg Value.bool (same_zero hx hy (by assumption) (by assumption))
        | exact congrArg Value.bool (same_eq hx hy (by assumption) (by assumption) (.inl (by assumption)))
        | exact congrArg Value.bool (same_eq hx hy (by assumption) (by assumption) (.inr (by assumption)))
    · skip
      refine VL.no rfl rfl rfl rfl rfl (by decide) ?_
      refine VL.no rfl rfl rfl rfl rfl (by decide) ?_
      refine VL.no rfl rfl rfl rfl rfl (by decide) ?_
      refine VL.r (.inl rfl) rfl (by decide) (yr_pick_f (u := .bool false) rfl rfl rfl) ?_
      refine VL.r (.inl rfl) rfl (by decide) (yr_assign rfl rfl) ?_
      refine VL.nil ?_
      refine VE.then_wp ?_
      refine V.ret ?_
      refine VE.then_ret ?_
      refine ret1 rfl rfl (fun w1 hw => ?_)
      refine ⟨?_, hw.below⟩
      simp only [fne_self, isz_of_feq0 hx, isz_of_feq0 hy] at *
      first
        | exact congrArg Value.bool (same_nanx hx hy (by assumption))
        | exact congrArg Value.bool (same_nany (by assumption) (by assumption)).symm
        | (exfalso; simp_all; done)
        | exact congrArg Value.bool (same_zero hx hy (by assumption) (by assumption))
        | exact congrArg Value.bool (same_eq hx hy (by assumption) (by assumption) (.inl (by assumption)))
        | exact congrArg Value.bool (same_eq hx hy (by assumption) (by assumption) (.inr (by assumption)))
  · skip
    refine VL.r (.inr ⟨_, _, _, rfl, rfl, rfl⟩) rfl (by decide) (yr_move rfl rfl) ?_
    refine VL.r (.inr ⟨_, _, _, rfl, rfl, rfl⟩) rfl (by decide) (yr_move rfl rfl) ?_
    refine VL.r (.inr ⟨_, _, _, rfl, rfl, rfl⟩) rfl (by decide) (yr_fcmp rfl (.inr (.inl rfl)) rfl rfl) ?_
    refine VL.r (.inl rfl) rfl (by decide) (yr_pick_f rfl rfl rfl) ?_
    refine VL.nil ?_
    refine VE.then_wp ?_
    refine V.cond rfl (fun h4 => ?_) (fun h4 => ?_)
    · skip
      refine V.seq ?_
      refine V.region ?_
      refine VL.r (.inl rfl) rfl (by decide) (yr_move rfl rfl) ?_
      refine VL.r (.inl rfl) rfl (by decide) (yr_move rfl rfl) ?_
      refine VL.r (.inl rfl) rfl (by decide) (yr_fcmp rfl (.inr (.inl rfl)) rfl rfl) ?_
      refine VL.r (.inl rfl) rfl (by decide) (yr_move rfl rfl) ?_
      refine VX.split 16 _ rfl (fun h5 => ?_) (fun h5 => ?_)
      · skip
        refine VL.r (.inr ⟨_, _, _, rfl, rfl, rfl⟩) rfl (by decide) (yr_move rfl rfl) ?_
        refine VL.r (.inr ⟨_, _, _, rfl, rfl, rfl⟩) rfl (by decide) (yr_move rfl rfl) ?_
        refine VL.r (.inr ⟨_, _, _, rfl, rfl, rfl⟩) rfl (by decide) (yr_fcmp rfl (.inr (.inl rfl)) rfl rfl) ?_
        refine VL.r (.inl rfl) rfl (by decide) (yr_pick_t rfl rfl rfl) ?_
        refine VL.r (.inl rfl) rfl (by decide) (yr_assign rfl rfl) ?_
        refine VL.nil ?_
        refine VE.then_wp ?_
        refine V.ret ?_
        refine VE.then_ret ?_
        refine ret1 rfl rfl (fun w1 hw => ?_)
        refine ⟨?_, hw.below⟩
        simp only [fne_self, isz_of_feq0 hx, isz_of_feq0 hy] at *
        first
          | exact congrArg Value.bool (same_nanx hx hy (by assumption))
          | exact congrArg Value.bool (same_nany (by assumption) (by assumption)).symm
          | (exfalso; simp_all; done)
          | exact congrArg Value.bool (same_zero hx hy (by assumption) (by assumption))
          | exact congrArg Value.bool (same_eq hx hy (by assumption) (by assumption) (.inl (by assumption)))
          | exact congrArg Value.bool (same_eq hx hy (by assumption) (by assumption) (.inr (by assumption)))
      · skip
        refine VL.no rfl rfl rfl rfl rfl (by decide) ?_
        refine VL.no rfl rfl rfl rfl rfl (by decide) ?_
        refine VL.no rfl rfl rfl rfl rfl (by decide) ?_
        refine VL.r (.inl rfl) rfl (by decide) (yr_pick_f (u := .bool false) rfl rfl rfl) ?_
        refine VL.r (.inl rfl) rfl (by decide) (yr_assign rfl rfl) ?_
        refine VL.nil ?_
        refine VE.then_wp ?_
        refine V.ret ?_
        refine VE.then_ret ?_
        refine ret1 rfl rfl (fun w1 hw => ?_)
        refine ⟨?_, hw.below⟩
        simp only [fne_self, isz_of_feq0 hx, isz_of_feq0 hy] at *
        first
          | exact congrArg Value.bool (same_nanx hx hy (by assumption))
          | exact congrArg Value.bool (same_nany (by assumption) (by assumption)).symm
          | (exfalso; simp_all; done)
          | exact congrArg Value.bool (same_zero hx hy (by assumption) (by assumption))
          | exact congrArg Value.bool (same_eq hx hy (by assumption) (by assumption) (.inl (by assumption)))
          | exact congrArg Value.bool (same_eq hx hy (by assumption) (by assumption) (.inr (by assumption)))
    · skip
      refine V.skip ?_
      refine VE.then_wp ?_
      refine V.seq ?_
      refine V.seq ?_
      refine V.region ?_
      refine VL.r (.inl rfl) rfl (by decide) (yr_move rfl rfl) ?_
      refine VL.r (.inl rfl) rfl (by decide) (yr_fcmp (b := 0) rfl (.inl rfl) rfl rfl) ?_
      refine VL.r (.inl rfl) rfl (by decide) (yr_move rfl rfl) ?_
      refine VX.split 23 _ rfl (fun h6 => ?_) (fun h6 => ?_)
      · skip
        refine VL.r (.inr ⟨_, _, _, rfl, rfl, rfl⟩) rfl (by decide) (yr_move rfl rfl) ?_
        refine VL.r (.inr ⟨_, _, _, rfl, rfl, rfl⟩) rfl (by decide) (yr_fcmp (b := 0) rfl (.inl rfl) rfl rfl) ?_
        refine VL.r (.inl rfl) rfl (by decide) (yr_pick_t rfl rfl rfl) ?_
        refine VL.nil ?_
        refine VE.then_wp ?_
        refine V.cond rfl (fun h7 => ?_) (fun h7 => ?_)
        · skip
          refine V.seq ?_
          refine V.region ?_
          refine VL.r (.inl rfl) rfl (by decide) (yr_move rfl rfl) ?_
          refine VL.r (.inl rfl) rfl (by decide) (yr_float (a := 4607182418800017408) rfl (.inr (.inr (.inr rfl))) rfl rfl) ?_
          refine VL.r (.inl rfl) rfl (by decide) (yr_fcmp (b := 0) rfl (.inr (.inr (.inr (.inr (.inl rfl))))) rfl rfl) ?_
          refine VL.r (.inl rfl) rfl (by decide) (yr_move rfl rfl) ?_
          refine VL.r (.inl rfl) rfl (by decide) (yr_float (a := 4607182418800017408) rfl (.inr (.inr (.inr rfl))) rfl rfl) ?_
          refine VL.r (.inl rfl) rfl (by decide) (yr_fcmp (b := 0) rfl (.inr (.inr (.inr (.inr (.inl rfl))))) rfl rfl) ?_
          refine VL.r (.inl rfl) rfl (by decide) (yr_bcmp rfl Try.underlying4 rfl rfl (.inl rfl)) ?_
          refine VL.r (.inl rfl) rfl (by decide) (yr_assign rfl rfl) ?_
          refine VL.nil ?_
          refine VE.then_wp ?_
          refine V.ret ?_
          refine VE.then_ret ?_
          refine ret1 rfl rfl (fun w1 hw => ?_)
          refine ⟨?_, hw.below⟩
          simp only [fne_self, isz_of_feq0 hx, isz_of_feq0 hy] at *
          first
            | exact congrArg Value.bool (same_nanx hx hy (by assumption))
            | exact congrArg Value.bool (same_nany (by assumption) (by assumption)).symm
            | (exfalso; simp_all; done)
            | exact congrArg Value.bool (same_zero hx hy (by assumption) (by assumption))
            | exact congrArg Value.bool (same_eq hx hy (by assumption) (by assumption) (.inl (by assumption)))
            | exact congrArg Value.bool (same_eq hx hy (by assumption) (by assumption) (.inr (by assumption)))
        · skip
          refine V.skip ?_
          refine VE.then_wp ?_
          refine V.seq ?_
          refine V.region ?_
          refine VL.r (.inl rfl) rfl (by decide) (yr_move rfl rfl) ?_
          refine VL.r (.inl rfl) rfl (by decide) (yr_move rfl rfl) ?_
          refine VL.r (.inl rfl) rfl (by decide) (yr_fcmp rfl (.inl rfl) rfl rfl) ?_
          refine VL.r (.inl rfl) rfl (by decide) (yr_assign rfl rfl) ?_
          refine VL.nil ?_
          refine VE.then_wp ?_
          refine V.ret ?_
          refine ret1 rfl rfl (fun w1 hw => ?_)
          refine ⟨?_, hw.below⟩
          simp only [fne_self, isz_of_feq0 hx, isz_of_feq0 hy] at *
          first
            | exact congrArg Value.bool (same_nanx hx hy (by assumption))
            | exact congrArg Value.bool (same_nany (by assumption) (by assumption)).symm
            | (exfalso; simp_all; done)
            | exact congrArg Value.bool (same_zero hx hy (by assumption) (by assumption))
            | exact congrArg Value.bool (same_eq hx hy (by assumption) (by assumption) (.inl (by assumption)))
            | exact congrArg Value.bool (same_eq hx hy (by assumption) (by assumption) (.inr (by assumption)))
      · skip
        refine VL.no rfl rfl rfl rfl rfl (by decide) ?_
        refine VL.no rfl rfl rfl rfl rfl (by decide) ?_
        refine VL.r (.inl rfl) rfl (by decide) (yr_pick_f (u := .bool false) rfl rfl rfl) ?_
        refine VL.nil ?_
        refine VE.then_wp ?_
        refine V.condF rfl ?_
        refine V.skip ?_
        refine VE.then_wp ?_
        refine V.seq ?_
        refine V.region ?_
        refine VL.r (.inl rfl) rfl (by decide) (yr_move rfl rfl) ?_
        refine VL.r (.inl rfl) rfl (by decide) (yr_move rfl rfl) ?_
        refine VL.r (.inl rfl) rfl (by decide) (yr_fcmp rfl (.inl rfl) rfl rfl) ?_
        refine VL.r (.inl rfl) rfl (by decide) (yr_assign rfl rfl) ?_
        refine VL.nil ?_
        refine VE.then_wp ?_
        refine V.ret ?_
        refine ret1 rfl rfl (fun w1 hw => ?_)
        refine ⟨?_, hw.below⟩
        simp only [fne_self, isz_of_feq0 hx, isz_of_feq0 hy] at *
        first
          | exact congrArg Value.bool (same_nanx hx hy (by assumption))
          | exact congrArg Value.bool (same_nany (by assumption) (by assumption)).symm
          | (exfalso; simp_all; done)
          | exact congrArg Value.bool (same_zero hx hy (by assumption) (by assumption))
          | exact congrArg Value.bool (same_eq hx hy (by assumption) (by assumption) (.inl (by assumption)))
          | exact congrArg Value.bool (same_eq hx hy (by assumption) (by assumption) (.inr (by assumption)))

end Go.Proofs.Ytcimhmnbemgpoaa
