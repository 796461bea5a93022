/- Walks: LSolve. Printed by gen.py. -/
import Derived.Test.YtbdbjeaaoaohlaaWSolve
import Derived.KernelRfl
namespace Go.Proofs.Ytbdbjeaaoaohlaa
open Go.RowKit
set_option linter.unusedVariables false
set_option linter.unusedSimpArgs false
set_option maxRecDepth 20000

theorem known10_LSolve : Known Try.prog 10 := Known.mk' Try.func10 (by kernel_rfl)
theorem known15_LSolve : Known Try.prog 15 := Known.mk' Try.func15 (by kernel_rfl)
theorem known16_LSolve : Known Try.prog 16 := Known.mk' Try.func16 (by kernel_rfl)
theorem known12_LSolve : Known Try.prog 12 := Known.mk' Try.func12 (by kernel_rfl)
theorem known13_LSolve : Known Try.prog 13 := Known.mk' Try.func13 (by kernel_rfl)
theorem known14_LSolve : Known Try.prog 14 := Known.mk' Try.func14 (by kernel_rfl)

theorem law_Solve {w : World} {a b : Option Addr} {c d : Nat} {xs ys : List Nat} (hA : Cl w a (fl xs)) (hB : Cl w b (fl ys)) (hX : ∀ x ∈ xs, Can .f32 x) (hY : ∀ x ∈ ys, Can .f32 x) : Pure Try.prog 4 [.slice a xs.length c, .slice b ys.length d] w (.bool true) := by
  refine Pure.enter Try.func4 rfl Try.ntmps4 (Nat.le_of_ble_eq_true rfl) ?_
  have hS := can_solveOf (l := xs) hY
  have hSl := length_solveOf xs ys
  refine V.seq ?_
  refine V.region ?_
  refine VL.r (.inl rfl) rfl (by decide) (yr_assign (u := .bool false) rfl rfl) ?_
  refine VL.nil ?_
  refine VE.then_wp ?_
  refine V.seq ?_
  refine V.seq ?_
  refine V.region ?_
  refine VL.r (.inl rfl) rfl (by decide) (yr_move rfl rfl) ?_
  refine VL.r (.inl rfl) rfl (by decide) (yr_len rfl Try.underlying22 rfl) ?_
  refine VL.r (.inl rfl) rfl (by decide) (yr_icmp rfl (.inr (.inr (.inr (.inr (.inl rfl))))) rfl rfl) ?_
  refine VL.nil ?_
  refine VE.then_wp ?_
  refine V.cond rfl (fun h1 => ?_) (fun h1 => ?_)
  · skip
    replace h1 := ic_gtr h1
    refine V.seq ?_
    refine V.region ?_
    refine VL.r (.inl rfl) rfl (by decide) (yr_assign (u := .bool true) rfl rfl) ?_
    refine VL.nil ?_
    refine VE.then_wp ?_
    refine V.ret ?_
    refine VE.then_ret ?_
    refine ret1 rfl rfl (fun w1 hw => ?_)
    exact ⟨rfl, hw.below⟩
  · skip
    replace h1 := ic_gtr' h1
    refine V.skip ?_
    refine VE.then_wp ?_
    refine V.seq ?_
    refine V.seq ?_
    refine V.region ?_
    refine VL.r (.inl rfl) rfl (by decide) (yr_move rfl rfl) ?_
    refine VL.r (.inl rfl) rfl (by decide) (yr_len rfl Try.underlying22 rfl) ?_
    refine VL.r (.inl rfl) rfl (by decide) (yr_icmp rfl (.inr (.inr (.inr (.inr (.inl rfl))))) rfl rfl) ?_
    refine VL.nil ?_
    refine VE.then_wp ?_
    refine V.cond rfl (fun h2 => ?_) (fun h2 => ?_)
    · skip
      replace h2 := ic_gtr h2
      refine V.seq ?_
      refine V.region ?_
      refine VL.r (.inl rfl) rfl (by decide) (yr_assign (u := .bool true) rfl rfl) ?_
      refine VL.nil ?_
      refine VE.then_wp ?_
      refine V.ret ?_
      refine VE.then_ret ?_
      refine ret1 rfl rfl (fun w1 hw => ?_)
      exact ⟨rfl, hw.below⟩
    · skip
      replace h2 := ic_gtr' h2
      refine V.skip ?_
      refine VE.then_wp ?_
      refine V.seq ?_
      refine V.region ?_
      refine VL.r (.inl rfl) rfl (by decide) (yr_move rfl rfl) ?_
      refine VL.new1 (.inl rfl) rfl (by decide) (yn_callf rfl known10_LSolve (.cons rfl .nil) (fun w hw => c_toF (by first | exact Sees.root (by assumption) w hw | exact Sees.at 0 rfl w hw | exact Sees.at 1 rfl w hw | exact Sees.at 2 rfl w hw | exact Sees.at 3 rfl w hw | exact Sees.at 4 rfl w hw | exact Sees.at 5 rfl w hw | exact Sees.at 6 rfl w hw | exact Sees.at 7 rfl w hw | exact Sees.at 8 rfl w hw | exact Sees.at 9 rfl w hw | exact Sees.at 10 rfl w hw | exact Sees.at 11 rfl w hw | exact Sees.at 12 rfl w hw | exact Sees.at 13 rfl w hw | exact Sees.at 14 rfl w hw | exact Sees.at 15 rfl w hw | exact Sees.at 16 rfl w hw | exact Sees.at 17 rfl w hw | exact Sees.at 18 rfl w hw | exact Sees.at 19 rfl w hw | exact Sees.own (List.mem_append.2 (.inr (.head _))) w hw) (by omega))) ?_
      rintro ⟨a24, c24⟩
      refine VL.r (.inl rfl) rfl (by decide) (yr_move rfl rfl) ?_
      refine VL.new1 (.inl rfl) rfl (by decide) (yn_callf rfl known10_LSolve (.cons rfl .nil) (fun w hw => c_toF (by first | exact Sees.root (by assumption) w hw | exact Sees.at 0 rfl w hw | exact Sees.at 1 rfl w hw | exact Sees.at 2 rfl w hw | exact Sees.at 3 rfl w hw | exact Sees.at 4 rfl w hw | exact Sees.at 5 rfl w hw | exact Sees.at 6 rfl w hw | exact Sees.at 7 rfl w hw | exact Sees.at 8 rfl w hw | exact Sees.at 9 rfl w hw | exact Sees.at 10 rfl w hw | exact Sees.at 11 rfl w hw | exact Sees.at 12 rfl w hw | exact Sees.at 13 rfl w hw | exact Sees.at 14 rfl w hw | exact Sees.at 15 rfl w hw | exact Sees.at 16 rfl w hw | exact Sees.at 17 rfl w hw | exact Sees.at 18 rfl w hw | exact Sees.at 19 rfl w hw | exact Sees.own (List.mem_append.2 (.inr (.head _))) w hw) (by omega))) ?_
      rintro ⟨a26, c26⟩
      refine VL.new1 (.inl rfl) rfl (by decide) (yn_callf rfl known15_LSolve (.cons rfl (.cons rfl .nil)) (fun w hw => (c_specSolve (by first | exact Sees.root (by assumption) w hw | exact Sees.at 0 rfl w hw | exact Sees.at 1 rfl w hw | exact Sees.at 2 rfl w hw | exact Sees.at 3 rfl w hw | exact Sees.at 4 rfl w hw | exact Sees.at 5 rfl w hw | exact Sees.at 6 rfl w hw | exact Sees.at 7 rfl w hw | exact Sees.at 8 rfl w hw | exact Sees.at 9 rfl w hw | exact Sees.at 10 rfl w hw | exact Sees.at 11 rfl w hw | exact Sees.at 12 rfl w hw | exact Sees.at 13 rfl w hw | exact Sees.at 14 rfl w hw | exact Sees.at 15 rfl w hw | exact Sees.at 16 rfl w hw | exact Sees.at 17 rfl w hw | exact Sees.at 18 rfl w hw | exact Sees.at 19 rfl w hw | exact Sees.own (List.mem_append.2 (.inr (.head _))) w hw) (by first | exact Sees.root (by assumption) w hw | exact Sees.at 0 rfl w hw | exact Sees.at 1 rfl w hw | exact Sees.at 2 rfl w hw | exact Sees.at 3 rfl w hw | exact Sees.at 4 rfl w hw | exact Sees.at 5 rfl w hw | exact Sees.at 6 rfl w hw | exact Sees.at 7 rfl w hw | exact Sees.at 8 rfl w hw | exact Sees.at 9 rfl w hw | exact Sees.at 10 rfl w hw | exact Sees.at 11 rfl w hw | exact Sees.at 12 rfl w hw | exact Sees.at 13 rfl w hw | exact Sees.at 14 rfl w hw | exact Sees.at 15 rfl w hw | exact Sees.at 16 rfl w hw | exact Sees.at 17 rfl w hw | exact Sees.at 18 rfl w hw | exact Sees.at 19 rfl w hw | exact Sees.own (List.mem_append.2 (.inr (.head _))) w hw) (by omega) (by omega)))) ?_
      rintro ⟨a27, c27⟩
      refine VL.r (.inl rfl) rfl (by decide) (yr_move rfl rfl) ?_
      refine VL.r (.inl rfl) rfl (by decide) (yr_extract rfl rfl rfl (by nofun)) ?_
      refine VL.r (.inl rfl) rfl (by decide) (yr_extract rfl rfl rfl (by nofun)) ?_
      refine VL.r (.inl rfl) rfl (by decide) (yr_assign rfl rfl) ?_
      refine VL.r (.inl rfl) rfl (by decide) (yr_assign rfl rfl) ?_
      refine VL.nil ?_
      refine VE.then_wp ?_
      refine V.seq ?_
      refine V.region ?_
      refine VL.r (.inl rfl) rfl (by decide) (yr_move rfl rfl) ?_
      refine VL.new1 (.inl rfl) rfl (by decide) (yn_callf rfl known10_LSolve (.cons rfl .nil) (fun w hw => c_toF (by first | exact Sees.root (by assumption) w hw | exact Sees.at 0 rfl w hw | exact Sees.at 1 rfl w hw | exact Sees.at 2 rfl w hw | exact Sees.at 3 rfl w hw | exact Sees.at 4 rfl w hw | exact Sees.at 5 rfl w hw | exact Sees.at 6 rfl w hw | exact Sees.at 7 rfl w hw | exact Sees.at 8 rfl w hw | exact Sees.at 9 rfl w hw | exact Sees.at 10 rfl w hw | exact Sees.at 11 rfl w hw | exact Sees.at 12 rfl w hw | exact Sees.at 13 rfl w hw | exact Sees.at 14 rfl w hw | exact Sees.at 15 rfl w hw | exact Sees.at 16 rfl w hw | exact Sees.at 17 rfl w hw | exact Sees.at 18 rfl w hw | exact Sees.at 19 rfl w hw | exact Sees.own (List.mem_append.2 (.inr (.head _))) w hw) (by omega))) ?_
      rintro ⟨a31, c31⟩
      refine VL.r (.inl rfl) rfl (by decide) (yr_assign rfl rfl) ?_
      refine VL.nil ?_
      refine VE.then_wp ?_
      refine V.seq ?_
      refine V.region ?_
      refine VL.r (.inl rfl) rfl (by decide) (yr_move rfl rfl) ?_
      refine VL.new1 (.inl rfl) rfl (by decide) (yn_callf rfl known10_LSolve (.cons rfl .nil) (fun w hw => c_toF (by first | exact Sees.root (by assumption) w hw | exact Sees.at 0 rfl w hw | exact Sees.at 1 rfl w hw | exact Sees.at 2 rfl w hw | exact Sees.at 3 rfl w hw | exact Sees.at 4 rfl w hw | exact Sees.at 5 rfl w hw | exact Sees.at 6 rfl w hw | exact Sees.at 7 rfl w hw | exact Sees.at 8 rfl w hw | exact Sees.at 9 rfl w hw | exact Sees.at 10 rfl w hw | exact Sees.at 11 rfl w hw | exact Sees.at 12 rfl w hw | exact Sees.at 13 rfl w hw | exact Sees.at 14 rfl w hw | exact Sees.at 15 rfl w hw | exact Sees.at 16 rfl w hw | exact Sees.at 17 rfl w hw | exact Sees.at 18 rfl w hw | exact Sees.at 19 rfl w hw | exact Sees.own (List.mem_append.2 (.inr (.head _))) w hw) (by omega))) ?_
      rintro ⟨a33, c33⟩
      refine VL.r (.inl rfl) rfl (by decide) (yr_assign rfl rfl) ?_
      refine VL.nil ?_
      refine VE.then_wp ?_
      refine V.seq ?_
      refine V.region ?_
      refine VL.r (.inl rfl) rfl (by decide) (yr_move rfl rfl) ?_
      refine VL.r (.inl rfl) rfl (by decide) (yr_move rfl rfl) ?_
      refine VL.new1 (.inl rfl) rfl (by decide) (yn_callf rfl known16_LSolve (.cons rfl (.cons rfl .nil)) (fun w hw => (c_implSolve (by first | exact Sees.root (by assumption) w hw | exact Sees.at 0 rfl w hw | exact Sees.at 1 rfl w hw | exact Sees.at 2 rfl w hw | exact Sees.at 3 rfl w hw | exact Sees.at 4 rfl w hw | exact Sees.at 5 rfl w hw | exact Sees.at 6 rfl w hw | exact Sees.at 7 rfl w hw | exact Sees.at 8 rfl w hw | exact Sees.at 9 rfl w hw | exact Sees.at 10 rfl w hw | exact Sees.at 11 rfl w hw | exact Sees.at 12 rfl w hw | exact Sees.at 13 rfl w hw | exact Sees.at 14 rfl w hw | exact Sees.at 15 rfl w hw | exact Sees.at 16 rfl w hw | exact Sees.at 17 rfl w hw | exact Sees.at 18 rfl w hw | exact Sees.at 19 rfl w hw | exact Sees.own (List.mem_append.2 (.inr (.head _))) w hw) (by first | exact Sees.root (by assumption) w hw | exact Sees.at 0 rfl w hw | exact Sees.at 1 rfl w hw | exact Sees.at 2 rfl w hw | exact Sees.at 3 rfl w hw | exact Sees.at 4 rfl w hw | exact Sees.at 5 rfl w hw | exact Sees.at 6 rfl w hw | exact Sees.at 7 rfl w hw | exact Sees.at 8 rfl w hw | exact Sees.at 9 rfl w hw | exact Sees.at 10 rfl w hw | exact Sees.at 11 rfl w hw | exact Sees.at 12 rfl w hw | exact Sees.at 13 rfl w hw | exact Sees.at 14 rfl w hw | exact Sees.at 15 rfl w hw | exact Sees.at 16 rfl w hw | exact Sees.at 17 rfl w hw | exact Sees.at 18 rfl w hw | exact Sees.at 19 rfl w hw | exact Sees.own (List.mem_append.2 (.inr (.head _))) w hw) (by omega) (by omega)))) ?_
      rintro ⟨a37, c37⟩
      refine VL.r (.inl rfl) rfl (by decide) (yr_move rfl rfl) ?_
      refine VL.r (.inl rfl) rfl (by decide) (yr_extract rfl rfl rfl (by nofun)) ?_
      refine VL.r (.inl rfl) rfl (by decide) (yr_extract rfl rfl rfl (by nofun)) ?_
      refine VL.r (.inl rfl) rfl (by decide) (yr_assign rfl rfl) ?_
      refine VL.r (.inl rfl) rfl (by decide) (yr_assign rfl rfl) ?_
      refine VL.nil ?_
      refine VE.then_wp ?_
      refine V.seq ?_
      refine V.seq ?_
      refine V.region ?_
      refine VL.r (.inl rfl) rfl (by decide) (yr_move rfl rfl) ?_
      refine VL.r (.inl rfl) rfl (by decide) (yr_move rfl rfl) ?_
      refine VL.q (.inl rfl) rfl (by decide) (yq_callf rfl known12_LSolve (.cons rfl (.cons rfl .nil)) (fun w hw => c_eqF (by first | exact Sees.root (by assumption) w hw | exact Sees.at 0 rfl w hw | exact Sees.at 1 rfl w hw | exact Sees.at 2 rfl w hw | exact Sees.at 3 rfl w hw | exact Sees.at 4 rfl w hw | exact Sees.at 5 rfl w hw | exact Sees.at 6 rfl w hw | exact Sees.at 7 rfl w hw | exact Sees.at 8 rfl w hw | exact Sees.at 9 rfl w hw | exact Sees.at 10 rfl w hw | exact Sees.at 11 rfl w hw | exact Sees.at 12 rfl w hw | exact Sees.at 13 rfl w hw | exact Sees.at 14 rfl w hw | exact Sees.at 15 rfl w hw | exact Sees.at 16 rfl w hw | exact Sees.at 17 rfl w hw | exact Sees.at 18 rfl w hw | exact Sees.at 19 rfl w hw | exact Sees.own (List.mem_append.2 (.inr (.head _))) w hw) (by first | exact Sees.root (by assumption) w hw | exact Sees.at 0 rfl w hw | exact Sees.at 1 rfl w hw | exact Sees.at 2 rfl w hw | exact Sees.at 3 rfl w hw | exact Sees.at 4 rfl w hw | exact Sees.at 5 rfl w hw | exact Sees.at 6 rfl w hw | exact Sees.at 7 rfl w hw | exact Sees.at 8 rfl w hw | exact Sees.at 9 rfl w hw | exact Sees.at 10 rfl w hw | exact Sees.at 11 rfl w hw | exact Sees.at 12 rfl w hw | exact Sees.at 13 rfl w hw | exact Sees.at 14 rfl w hw | exact Sees.at 15 rfl w hw | exact Sees.at 16 rfl w hw | exact Sees.at 17 rfl w hw | exact Sees.at 18 rfl w hw | exact Sees.at 19 rfl w hw | exact Sees.own (List.mem_append.2 (.inr (.head _))) w hw) (by first | assumption | exact can_up _ | exact can_fop _ _ _ _ | exact can_of _ (by assumption)) (by first | assumption | exact can_up _ | exact can_fop _ _ _ _ | exact can_of _ (by assumption)) (by omega))) ?_
      refine VL.r (.inl rfl) rfl (by decide) (yr_not rfl rfl) ?_
      refine VL.r (.inl rfl) rfl (by decide) (yr_move rfl rfl) ?_
      refine VX.split 44 _ rfl (fun h3 => ?_) (fun h3 => ?_)
      · skip
        replace h3 := bnot_t h3
        first | (exfalso; omega) | (simp [bcmp] at h3; done)
      · skip
        replace h3 := bnot_f h3
        refine VL.r (.inr ⟨_, _, _, rfl, rfl, rfl⟩) rfl (by decide) (yr_move rfl rfl) ?_
        refine VL.r (.inr ⟨_, _, _, rfl, rfl, rfl⟩) rfl (by decide) (yr_move rfl rfl) ?_
        refine VL.r (.inr ⟨_, _, _, rfl, rfl, rfl⟩) rfl (by decide) (yr_bcmp rfl Try.underlying4 rfl rfl (.inr rfl)) ?_
        refine VL.r (.inl rfl) rfl (by decide) (yr_pick_f rfl rfl rfl) ?_
        refine VL.nil ?_
        refine VE.then_wp ?_
        refine V.cond rfl (fun h4 => ?_) (fun h4 => ?_)
        · skip
          first | (exfalso; omega) | (simp [bcmp] at h4; done)
        · skip
          refine V.skip ?_
          refine VE.then_wp ?_
          refine V.seq ?_
          refine V.seq ?_
          refine V.region ?_
          refine VL.r (.inl rfl) rfl (by decide) (yr_move rfl rfl) ?_
          refine VL.r (.inl rfl) rfl (by decide) (yr_move rfl rfl) ?_
          refine VL.new1 (.inl rfl) rfl (by decide) (yn_callf rfl known10_LSolve (.cons rfl .nil) (fun w hw => c_toF (by first | exact Sees.root (by assumption) w hw | exact Sees.at 0 rfl w hw | exact Sees.at 1 rfl w hw | exact Sees.at 2 rfl w hw | exact Sees.at 3 rfl w hw | exact Sees.at 4 rfl w hw | exact Sees.at 5 rfl w hw | exact Sees.at 6 rfl w hw | exact Sees.at 7 rfl w hw | exact Sees.at 8 rfl w hw | exact Sees.at 9 rfl w hw | exact Sees.at 10 rfl w hw | exact Sees.at 11 rfl w hw | exact Sees.at 12 rfl w hw | exact Sees.at 13 rfl w hw | exact Sees.at 14 rfl w hw | exact Sees.at 15 rfl w hw | exact Sees.at 16 rfl w hw | exact Sees.at 17 rfl w hw | exact Sees.at 18 rfl w hw | exact Sees.at 19 rfl w hw | exact Sees.own (List.mem_append.2 (.inr (.head _))) w hw) (by omega))) ?_
          rintro ⟨a51, c51⟩
          refine VL.q (.inl rfl) rfl (by decide) (yq_callf rfl known12_LSolve (.cons rfl (.cons rfl .nil)) (fun w hw => c_eqF (by first | exact Sees.root (by assumption) w hw | exact Sees.at 0 rfl w hw | exact Sees.at 1 rfl w hw | exact Sees.at 2 rfl w hw | exact Sees.at 3 rfl w hw | exact Sees.at 4 rfl w hw | exact Sees.at 5 rfl w hw | exact Sees.at 6 rfl w hw | exact Sees.at 7 rfl w hw | exact Sees.at 8 rfl w hw | exact Sees.at 9 rfl w hw | exact Sees.at 10 rfl w hw | exact Sees.at 11 rfl w hw | exact Sees.at 12 rfl w hw | exact Sees.at 13 rfl w hw | exact Sees.at 14 rfl w hw | exact Sees.at 15 rfl w hw | exact Sees.at 16 rfl w hw | exact Sees.at 17 rfl w hw | exact Sees.at 18 rfl w hw | exact Sees.at 19 rfl w hw | exact Sees.own (List.mem_append.2 (.inr (.head _))) w hw) (by first | exact Sees.root (by assumption) w hw | exact Sees.at 0 rfl w hw | exact Sees.at 1 rfl w hw | exact Sees.at 2 rfl w hw | exact Sees.at 3 rfl w hw | exact Sees.at 4 rfl w hw | exact Sees.at 5 rfl w hw | exact Sees.at 6 rfl w hw | exact Sees.at 7 rfl w hw | exact Sees.at 8 rfl w hw | exact Sees.at 9 rfl w hw | exact Sees.at 10 rfl w hw | exact Sees.at 11 rfl w hw | exact Sees.at 12 rfl w hw | exact Sees.at 13 rfl w hw | exact Sees.at 14 rfl w hw | exact Sees.at 15 rfl w hw | exact Sees.at 16 rfl w hw | exact Sees.at 17 rfl w hw | exact Sees.at 18 rfl w hw | exact Sees.at 19 rfl w hw | exact Sees.own (List.mem_append.2 (.inr (.head _))) w hw) (by first | assumption | exact can_up _ | exact can_fop _ _ _ _ | exact can_of _ (by assumption)) (by first | assumption | exact can_up _ | exact can_fop _ _ _ _ | exact can_of _ (by assumption)) (by omega))) ?_
          refine VL.r (.inl rfl) rfl (by decide) (yr_not rfl rfl) ?_
          refine VL.nil ?_
          refine VE.then_wp ?_
          refine V.cond rfl (fun h5 => ?_) (fun h5 => ?_)
          · skip
            replace h5 := bnot_t h5
            first | (exfalso; omega) | (simp [bcmp] at h5; done)
          · skip
            replace h5 := bnot_f h5
            refine V.skip ?_
            refine VE.then_wp ?_
            refine V.seq ?_
            refine V.seq ?_
            refine V.region ?_
            refine VL.r (.inl rfl) rfl (by decide) (yr_move rfl rfl) ?_
            refine VL.r (.inl rfl) rfl (by decide) (yr_move rfl rfl) ?_
            refine VL.new1 (.inl rfl) rfl (by decide) (yn_callf rfl known10_LSolve (.cons rfl .nil) (fun w hw => c_toF (by first | exact Sees.root (by assumption) w hw | exact Sees.at 0 rfl w hw | exact Sees.at 1 rfl w hw | exact Sees.at 2 rfl w hw | exact Sees.at 3 rfl w hw | exact Sees.at 4 rfl w hw | exact Sees.at 5 rfl w hw | exact Sees.at 6 rfl w hw | exact Sees.at 7 rfl w hw | exact Sees.at 8 rfl w hw | exact Sees.at 9 rfl w hw | exact Sees.at 10 rfl w hw | exact Sees.at 11 rfl w hw | exact Sees.at 12 rfl w hw | exact Sees.at 13 rfl w hw | exact Sees.at 14 rfl w hw | exact Sees.at 15 rfl w hw | exact Sees.at 16 rfl w hw | exact Sees.at 17 rfl w hw | exact Sees.at 18 rfl w hw | exact Sees.at 19 rfl w hw | exact Sees.own (List.mem_append.2 (.inr (.head _))) w hw) (by omega))) ?_
            rintro ⟨a56, c56⟩
            refine VL.q (.inl rfl) rfl (by decide) (yq_callf rfl known12_LSolve (.cons rfl (.cons rfl .nil)) (fun w hw => c_eqF (by first | exact Sees.root (by assumption) w hw | exact Sees.at 0 rfl w hw | exact Sees.at 1 rfl w hw | exact Sees.at 2 rfl w hw | exact Sees.at 3 rfl w hw | exact Sees.at 4 rfl w hw | exact Sees.at 5 rfl w hw | exact Sees.at 6 rfl w hw | exact Sees.at 7 rfl w hw | exact Sees.at 8 rfl w hw | exact Sees.at 9 rfl w hw | exact Sees.at 10 rfl w hw | exact Sees.at 11 rfl w hw | exact Sees.at 12 rfl w hw | exact Sees.at 13 rfl w hw | exact Sees.at 14 rfl w hw | exact Sees.at 15 rfl w hw | exact Sees.at 16 rfl w hw | exact Sees.at 17 rfl w hw | exact Sees.at 18 rfl w hw | exact Sees.at 19 rfl w hw | exact Sees.own (List.mem_append.2 (.inr (.head _))) w hw) (by first | exact Sees.root (by assumption) w hw | exact Sees.at 0 rfl w hw | exact Sees.at 1 rfl w hw | exact Sees.at 2 rfl w hw | exact Sees.at 3 rfl w hw | exact Sees.at 4 rfl w hw | exact Sees.at 5 rfl w hw | exact Sees.at 6 rfl w hw | exact Sees.at 7 rfl w hw | exact Sees.at 8 rfl w hw | exact Sees.at 9 rfl w hw | exact Sees.at 10 rfl w hw | exact Sees.at 11 rfl w hw | exact Sees.at 12 rfl w hw | exact Sees.at 13 rfl w hw | exact Sees.at 14 rfl w hw | exact Sees.at 15 rfl w hw | exact Sees.at 16 rfl w hw | exact Sees.at 17 rfl w hw | exact Sees.at 18 rfl w hw | exact Sees.at 19 rfl w hw | exact Sees.own (List.mem_append.2 (.inr (.head _))) w hw) (by first | assumption | exact can_up _ | exact can_fop _ _ _ _ | exact can_of _ (by assumption)) (by first | assumption | exact can_up _ | exact can_fop _ _ _ _ | exact can_of _ (by assumption)) (by omega))) ?_
            refine VL.r (.inl rfl) rfl (by decide) (yr_not rfl rfl) ?_
            refine VL.nil ?_
            refine VE.then_wp ?_
            refine V.cond rfl (fun h6 => ?_) (fun h6 => ?_)
            · skip
              replace h6 := bnot_t h6
              first | (exfalso; omega) | (simp [bcmp] at h6; done)
            · skip
              replace h6 := bnot_f h6
              refine V.skip ?_
              refine VE.then_wp ?_
              refine V.seq ?_
              refine V.region ?_
              refine VL.r (.inl rfl) rfl (by decide) (yr_assign (u := .int .i64 1) rfl rfl) ?_
              refine VL.nil ?_
              refine VE.then_wp ?_
              refine V.seq ?_
              refine V.region ?_
              refine VL.r (.inl rfl) rfl (by decide) (yr_move rfl rfl) ?_
              refine VL.r (.inl rfl) rfl (by decide) (yr_move rfl rfl) ?_
              refine VL.c (.inl rfl) rfl (by decide) (yc_callf rfl known13_LSolve (.cons rfl (.cons rfl .nil)) (by first | exact .take .here .nil | exact .take (.there .here) .nil | exact .take (.there (.there .here)) .nil | exact .take (.there (.there (.there .here))) .nil | exact .take (.there (.there (.there (.there .here)))) .nil | exact .take (.there (.there (.there (.there (.there .here))))) .nil | exact .take (.there (.there (.there (.there (.there (.there .here)))))) .nil | exact .take (.there (.there (.there (.there (.there (.there (.there .here))))))) .nil | exact .take (.there (.there (.there (.there (.there (.there (.there (.there .here)))))))) .nil | exact .take (.there (.there (.there (.there (.there (.there (.there (.there (.there .here))))))))) .nil | exact .take (.there (.there (.there (.there (.there (.there (.there (.there (.there (.there .here)))))))))) .nil | exact .take (.there (.there (.there (.there (.there (.there (.there (.there (.there (.there (.there .here))))))))))) .nil | exact .take (.there (.there (.there (.there (.there (.there (.there (.there (.there (.there (.there (.there .here)))))))))))) .nil | exact .take (.there (.there (.there (.there (.there (.there (.there (.there (.there (.there (.there (.there (.there .here))))))))))))) .nil) (c_markF (by omega) (by omega) (by omega))) ?_
              rintro ⟨⟩
              refine VL.r (.inl rfl) rfl (by decide) (yr_assign rfl rfl) ?_
              refine VL.nil ?_
              refine VE.then_wp ?_
              refine V.seq ?_
              refine V.region ?_
              refine VL.r (.inl rfl) rfl (by decide) (yr_move rfl rfl) ?_
              refine VL.r (.inl rfl) rfl (by decide) (yr_move rfl rfl) ?_
              refine VL.c (.inl rfl) rfl (by decide) (yc_callf rfl known13_LSolve (.cons rfl (.cons rfl .nil)) (by first | exact .take .here .nil | exact .take (.there .here) .nil | exact .take (.there (.there .here)) .nil | exact .take (.there (.there (.there .here))) .nil | exact .take (.there (.there (.there (.there .here)))) .nil | exact .take (.there (.there (.there (.there (.there .here))))) .nil | exact .take (.there (.there (.there (.there (.there (.there .here)))))) .nil | exact .take (.there (.there (.there (.there (.there (.there (.there .here))))))) .nil | exact .take (.there (.there (.there (.there (.there (.there (.there (.there .here)))))))) .nil | exact .take (.there (.there (.there (.there (.there (.there (.there (.there (.there .here))))))))) .nil | exact .take (.there (.there (.there (.there (.there (.there (.there (.there (.there (.there .here)))))))))) .nil | exact .take (.there (.there (.there (.there (.there (.there (.there (.there (.there (.there (.there .here))))))))))) .nil | exact .take (.there (.there (.there (.there (.there (.there (.there (.there (.there (.there (.there (.there .here)))))))))))) .nil | exact .take (.there (.there (.there (.there (.there (.there (.there (.there (.there (.there (.there (.there (.there .here))))))))))))) .nil) (c_markF (by omega) (by omega) (by omega))) ?_
              rintro ⟨⟩
              refine VL.r (.inl rfl) rfl (by decide) (yr_assign rfl rfl) ?_
              refine VL.nil ?_
              refine VE.then_wp ?_
              refine V.seq ?_
              refine V.seq ?_
              refine V.region ?_
              refine VL.r (.inl rfl) rfl (by decide) (yr_move rfl rfl) ?_
              refine VL.r (.inl rfl) rfl (by decide) (yr_icmp rfl (.inr (.inr (.inl rfl))) rfl rfl) ?_
              refine VL.r (.inl rfl) rfl (by decide) (yr_move rfl rfl) ?_
              refine VX.split 67 _ rfl (fun h7 => ?_) (fun h7 => ?_)
              · skip
                replace h7 := ic_lss h7
                first | (exfalso; omega) | (simp [bcmp] at h7; done)
              · skip
                replace h7 := ic_lss' h7
                refine VL.r (.inr ⟨_, _, _, rfl, rfl, rfl⟩) rfl (by decide) (yr_move rfl rfl) ?_
                refine VL.r (.inr ⟨_, _, _, rfl, rfl, rfl⟩) rfl (by decide) (yr_move rfl rfl) ?_
                refine VL.q (.inr ⟨_, _, _, rfl, rfl, rfl⟩) rfl (by decide) (yq_callf rfl known12_LSolve (.cons rfl (.cons rfl .nil)) (fun w hw => c_eqF (by first | exact Sees.root (by assumption) w hw | exact Sees.at 0 rfl w hw | exact Sees.at 1 rfl w hw | exact Sees.at 2 rfl w hw | exact Sees.at 3 rfl w hw | exact Sees.at 4 rfl w hw | exact Sees.at 5 rfl w hw | exact Sees.at 6 rfl w hw | exact Sees.at 7 rfl w hw | exact Sees.at 8 rfl w hw | exact Sees.at 9 rfl w hw | exact Sees.at 10 rfl w hw | exact Sees.at 11 rfl w hw | exact Sees.at 12 rfl w hw | exact Sees.at 13 rfl w hw | exact Sees.at 14 rfl w hw | exact Sees.at 15 rfl w hw | exact Sees.at 16 rfl w hw | exact Sees.at 17 rfl w hw | exact Sees.at 18 rfl w hw | exact Sees.at 19 rfl w hw | exact Sees.own (List.mem_append.2 (.inr (.head _))) w hw) (by first | exact Sees.root (by assumption) w hw | exact Sees.at 0 rfl w hw | exact Sees.at 1 rfl w hw | exact Sees.at 2 rfl w hw | exact Sees.at 3 rfl w hw | exact Sees.at 4 rfl w hw | exact Sees.at 5 rfl w hw | exact Sees.at 6 rfl w hw | exact Sees.at 7 rfl w hw | exact Sees.at 8 rfl w hw | exact Sees.at 9 rfl w hw | exact Sees.at 10 rfl w hw | exact Sees.at 11 rfl w hw | exact Sees.at 12 rfl w hw | exact Sees.at 13 rfl w hw | exact Sees.at 14 rfl w hw | exact Sees.at 15 rfl w hw | exact Sees.at 16 rfl w hw | exact Sees.at 17 rfl w hw | exact Sees.at 18 rfl w hw | exact Sees.at 19 rfl w hw | exact Sees.own (List.mem_append.2 (.inr (.head _))) w hw) (by first | assumption | exact can_up _ | exact can_fop _ _ _ _ | exact can_of _ (by assumption)) (by first | assumption | exact can_up _ | exact can_fop _ _ _ _ | exact can_of _ (by assumption)) (by omega))) ?_
                refine VL.r (.inr ⟨_, _, _, rfl, rfl, rfl⟩) rfl (by decide) (yr_not rfl rfl) ?_
                refine VL.r (.inl rfl) rfl (by decide) (yr_pick_f rfl rfl rfl) ?_
                refine VL.r (.inl rfl) rfl (by decide) (yr_move rfl rfl) ?_
                refine VX.split 73 _ rfl (fun h8 => ?_) (fun h8 => ?_)
                · skip
                  replace h8 := bnot_t h8
                  first | (exfalso; omega) | (simp [bcmp] at h8; done)
                · skip
                  replace h8 := bnot_f h8
                  refine VL.r (.inr ⟨_, _, _, rfl, rfl, rfl⟩) rfl (by decide) (yr_move rfl rfl) ?_
                  refine VL.r (.inr ⟨_, _, _, rfl, rfl, rfl⟩) rfl (by decide) (yr_move rfl rfl) ?_
                  refine VL.r (.inr ⟨_, _, _, rfl, rfl, rfl⟩) rfl (by decide) (yr_bcmp rfl Try.underlying4 rfl rfl (.inr rfl)) ?_
                  refine VL.r (.inl rfl) rfl (by decide) (yr_pick_f rfl rfl rfl) ?_
                  refine VL.nil ?_
                  refine VE.then_wp ?_
                  refine V.cond rfl (fun h9 => ?_) (fun h9 => ?_)
                  · skip
                    first | (exfalso; omega) | (simp [bcmp] at h9; done)
                  · skip
                    refine V.skip ?_
                    refine VE.then_wp ?_
                    refine V.seq ?_
                    refine V.region ?_
                    refine VL.r (.inl rfl) rfl (by decide) (yr_assign (u := .int .i64 1) rfl rfl) ?_
                    refine VL.nil ?_
                    refine VE.then_wp ?_
                    refine V.seq ?_
                    refine V.region ?_
                    refine VL.r (.inl rfl) rfl (by decide) (yr_move rfl rfl) ?_
                    refine VL.r (.inl rfl) rfl (by decide) (yr_move rfl rfl) ?_
                    refine VL.c (.inl rfl) rfl (by decide) (yc_callf rfl known13_LSolve (.cons rfl (.cons rfl .nil)) (by first | exact .take .here .nil | exact .take (.there .here) .nil | exact .take (.there (.there .here)) .nil | exact .take (.there (.there (.there .here))) .nil | exact .take (.there (.there (.there (.there .here)))) .nil | exact .take (.there (.there (.there (.there (.there .here))))) .nil | exact .take (.there (.there (.there (.there (.there (.there .here)))))) .nil | exact .take (.there (.there (.there (.there (.there (.there (.there .here))))))) .nil | exact .take (.there (.there (.there (.there (.there (.there (.there (.there .here)))))))) .nil | exact .take (.there (.there (.there (.there (.there (.there (.there (.there (.there .here))))))))) .nil | exact .take (.there (.there (.there (.there (.there (.there (.there (.there (.there (.there .here)))))))))) .nil | exact .take (.there (.there (.there (.there (.there (.there (.there (.there (.there (.there (.there .here))))))))))) .nil | exact .take (.there (.there (.there (.there (.there (.there (.there (.there (.there (.there (.there (.there .here)))))))))))) .nil | exact .take (.there (.there (.there (.there (.there (.there (.there (.there (.there (.there (.there (.there (.there .here))))))))))))) .nil) (c_markF (by omega) (by omega) (by omega))) ?_
                    rintro ⟨⟩
                    refine VL.r (.inl rfl) rfl (by decide) (yr_assign rfl rfl) ?_
                    refine VL.nil ?_
                    refine VE.then_wp ?_
                    refine V.seq ?_
                    refine V.region ?_
                    refine VL.r (.inl rfl) rfl (by decide) (yr_assign (u := .int .i64 1) rfl rfl) ?_
                    refine VL.nil ?_
                    refine VE.then_wp ?_
                    refine V.seq ?_
                    refine V.region ?_
                    refine VL.r (.inl rfl) rfl (by decide) (yr_move rfl rfl) ?_
                    refine VL.r (.inl rfl) rfl (by decide) (yr_move rfl rfl) ?_
                    refine VL.q (.inl rfl) rfl (by decide) (yq_callf rfl known14_LSolve (.cons rfl (.cons rfl .nil)) (fun w hw => c_heldF (by first | exact Sees.root (by assumption) w hw | exact Sees.at 0 rfl w hw | exact Sees.at 1 rfl w hw | exact Sees.at 2 rfl w hw | exact Sees.at 3 rfl w hw | exact Sees.at 4 rfl w hw | exact Sees.at 5 rfl w hw | exact Sees.at 6 rfl w hw | exact Sees.at 7 rfl w hw | exact Sees.at 8 rfl w hw | exact Sees.at 9 rfl w hw | exact Sees.at 10 rfl w hw | exact Sees.at 11 rfl w hw | exact Sees.at 12 rfl w hw | exact Sees.at 13 rfl w hw | exact Sees.at 14 rfl w hw | exact Sees.at 15 rfl w hw | exact Sees.at 16 rfl w hw | exact Sees.at 17 rfl w hw | exact Sees.at 18 rfl w hw | exact Sees.at 19 rfl w hw | exact Sees.own (List.mem_append.2 (.inr (.head _))) w hw) (by omega) (by omega) (by omega))) ?_
                    refine VL.r (.inl rfl) rfl (by decide) (yr_assign rfl rfl) ?_
                    refine VL.nil ?_
                    refine VE.then_wp ?_
                    refine V.seq ?_
                    refine V.seq ?_
                    refine V.region ?_
                    refine VL.r (.inl rfl) rfl (by decide) (yr_move rfl rfl) ?_
                    refine VL.r (.inl rfl) rfl (by decide) (yr_icmp rfl (.inr (.inr (.inl rfl))) rfl rfl) ?_
                    refine VL.nil ?_
                    refine VE.then_wp ?_
                    refine V.cond rfl (fun h10 => ?_) (fun h10 => ?_)
                    · skip
                      replace h10 := ic_lss h10
                      first | (exfalso; omega) | (simp [bcmp] at h10; done)
                    · skip
                      replace h10 := ic_lss' h10
                      refine V.skip ?_
                      refine VE.then_wp ?_
                      refine V.seq ?_
                      refine V.seq ?_
                      refine V.region ?_
                      refine VL.r (.inl rfl) rfl (by decide) (yr_move rfl rfl) ?_
                      refine VL.r (.inl rfl) rfl (by decide) (yr_move rfl rfl) ?_
                      refine VL.r (.inl rfl) rfl (by decide) (yr_icmp rfl (.inr (.inl rfl)) rfl rfl) ?_
                      refine VL.nil ?_
                      refine VE.then_wp ?_
                      refine V.cond rfl (fun h11 => ?_) (fun h11 => ?_)
                      · skip
                        replace h11 := ic_neq h11
                        first | (exfalso; omega) | (simp [bcmp] at h11; done)
                      · skip
                        replace h11 := ic_neq' h11
                        refine V.skip ?_
                        refine VE.then_wp ?_
                        refine V.seq ?_
                        refine V.region ?_
                        refine VL.r (.inl rfl) rfl (by decide) (yr_move rfl rfl) ?_
                        refine VL.new1 (.inl rfl) rfl (by decide) (yn_callf rfl known10_LSolve (.cons rfl .nil) (fun w hw => c_toF (by first | exact Sees.root (by assumption) w hw | exact Sees.at 0 rfl w hw | exact Sees.at 1 rfl w hw | exact Sees.at 2 rfl w hw | exact Sees.at 3 rfl w hw | exact Sees.at 4 rfl w hw | exact Sees.at 5 rfl w hw | exact Sees.at 6 rfl w hw | exact Sees.at 7 rfl w hw | exact Sees.at 8 rfl w hw | exact Sees.at 9 rfl w hw | exact Sees.at 10 rfl w hw | exact Sees.at 11 rfl w hw | exact Sees.at 12 rfl w hw | exact Sees.at 13 rfl w hw | exact Sees.at 14 rfl w hw | exact Sees.at 15 rfl w hw | exact Sees.at 16 rfl w hw | exact Sees.at 17 rfl w hw | exact Sees.at 18 rfl w hw | exact Sees.at 19 rfl w hw | exact Sees.own (List.mem_append.2 (.inr (.head _))) w hw) (by omega))) ?_
                        rintro ⟨a91, c91⟩
                        refine VL.r (.inl rfl) rfl (by decide) (yr_move rfl rfl) ?_
                        refine VL.new1 (.inl rfl) rfl (by decide) (yn_callf rfl known10_LSolve (.cons rfl .nil) (fun w hw => c_toF (by first | exact Sees.root (by assumption) w hw | exact Sees.at 0 rfl w hw | exact Sees.at 1 rfl w hw | exact Sees.at 2 rfl w hw | exact Sees.at 3 rfl w hw | exact Sees.at 4 rfl w hw | exact Sees.at 5 rfl w hw | exact Sees.at 6 rfl w hw | exact Sees.at 7 rfl w hw | exact Sees.at 8 rfl w hw | exact Sees.at 9 rfl w hw | exact Sees.at 10 rfl w hw | exact Sees.at 11 rfl w hw | exact Sees.at 12 rfl w hw | exact Sees.at 13 rfl w hw | exact Sees.at 14 rfl w hw | exact Sees.at 15 rfl w hw | exact Sees.at 16 rfl w hw | exact Sees.at 17 rfl w hw | exact Sees.at 18 rfl w hw | exact Sees.at 19 rfl w hw | exact Sees.own (List.mem_append.2 (.inr (.head _))) w hw) (by omega))) ?_
                        rintro ⟨a93, c93⟩
                        refine VL.new1 (.inl rfl) rfl (by decide) (yn_callf rfl known16_LSolve (.cons rfl (.cons rfl .nil)) (fun w hw => (c_implSolve (by first | exact Sees.root (by assumption) w hw | exact Sees.at 0 rfl w hw | exact Sees.at 1 rfl w hw | exact Sees.at 2 rfl w hw | exact Sees.at 3 rfl w hw | exact Sees.at 4 rfl w hw | exact Sees.at 5 rfl w hw | exact Sees.at 6 rfl w hw | exact Sees.at 7 rfl w hw | exact Sees.at 8 rfl w hw | exact Sees.at 9 rfl w hw | exact Sees.at 10 rfl w hw | exact Sees.at 11 rfl w hw | exact Sees.at 12 rfl w hw | exact Sees.at 13 rfl w hw | exact Sees.at 14 rfl w hw | exact Sees.at 15 rfl w hw | exact Sees.at 16 rfl w hw | exact Sees.at 17 rfl w hw | exact Sees.at 18 rfl w hw | exact Sees.at 19 rfl w hw | exact Sees.own (List.mem_append.2 (.inr (.head _))) w hw) (by first | exact Sees.root (by assumption) w hw | exact Sees.at 0 rfl w hw | exact Sees.at 1 rfl w hw | exact Sees.at 2 rfl w hw | exact Sees.at 3 rfl w hw | exact Sees.at 4 rfl w hw | exact Sees.at 5 rfl w hw | exact Sees.at 6 rfl w hw | exact Sees.at 7 rfl w hw | exact Sees.at 8 rfl w hw | exact Sees.at 9 rfl w hw | exact Sees.at 10 rfl w hw | exact Sees.at 11 rfl w hw | exact Sees.at 12 rfl w hw | exact Sees.at 13 rfl w hw | exact Sees.at 14 rfl w hw | exact Sees.at 15 rfl w hw | exact Sees.at 16 rfl w hw | exact Sees.at 17 rfl w hw | exact Sees.at 18 rfl w hw | exact Sees.at 19 rfl w hw | exact Sees.own (List.mem_append.2 (.inr (.head _))) w hw) (by omega) (by omega)))) ?_
                        rintro ⟨a94, c94⟩
                        refine VL.r (.inl rfl) rfl (by decide) (yr_move rfl rfl) ?_
                        refine VL.r (.inl rfl) rfl (by decide) (yr_extract rfl rfl rfl (by nofun)) ?_
                        refine VL.r (.inl rfl) rfl (by decide) (yr_extract rfl rfl rfl (by nofun)) ?_
                        refine VL.r (.inl rfl) rfl (by decide) (yr_assign rfl rfl) ?_
                        refine VL.r (.inl rfl) rfl (by decide) (yr_assign rfl rfl) ?_
                        refine VL.nil ?_
                        refine VE.then_wp ?_
                        refine V.seq ?_
                        refine V.seq ?_
                        refine V.region ?_
                        refine VL.r (.inl rfl) rfl (by decide) (yr_move rfl rfl) ?_
                        refine VL.r (.inl rfl) rfl (by decide) (yr_move rfl rfl) ?_
                        refine VL.q (.inl rfl) rfl (by decide) (yq_callf rfl known12_LSolve (.cons rfl (.cons rfl .nil)) (fun w hw => c_eqF (by first | exact Sees.root (by assumption) w hw | exact Sees.at 0 rfl w hw | exact Sees.at 1 rfl w hw | exact Sees.at 2 rfl w hw | exact Sees.at 3 rfl w hw | exact Sees.at 4 rfl w hw | exact Sees.at 5 rfl w hw | exact Sees.at 6 rfl w hw | exact Sees.at 7 rfl w hw | exact Sees.at 8 rfl w hw | exact Sees.at 9 rfl w hw | exact Sees.at 10 rfl w hw | exact Sees.at 11 rfl w hw | exact Sees.at 12 rfl w hw | exact Sees.at 13 rfl w hw | exact Sees.at 14 rfl w hw | exact Sees.at 15 rfl w hw | exact Sees.at 16 rfl w hw | exact Sees.at 17 rfl w hw | exact Sees.at 18 rfl w hw | exact Sees.at 19 rfl w hw | exact Sees.own (List.mem_append.2 (.inr (.head _))) w hw) (by first | exact Sees.root (by assumption) w hw | exact Sees.at 0 rfl w hw | exact Sees.at 1 rfl w hw | exact Sees.at 2 rfl w hw | exact Sees.at 3 rfl w hw | exact Sees.at 4 rfl w hw | exact Sees.at 5 rfl w hw | exact Sees.at 6 rfl w hw | exact Sees.at 7 rfl w hw | exact Sees.at 8 rfl w hw | exact Sees.at 9 rfl w hw | exact Sees.at 10 rfl w hw | exact Sees.at 11 rfl w hw | exact Sees.at 12 rfl w hw | exact Sees.at 13 rfl w hw | exact Sees.at 14 rfl w hw | exact Sees.at 15 rfl w hw | exact Sees.at 16 rfl w hw | exact Sees.at 17 rfl w hw | exact Sees.at 18 rfl w hw | exact Sees.at 19 rfl w hw | exact Sees.own (List.mem_append.2 (.inr (.head _))) w hw) (by first | assumption | exact can_up _ | exact can_fop _ _ _ _ | exact can_of _ (by assumption)) (by first | assumption | exact can_up _ | exact can_fop _ _ _ _ | exact can_of _ (by assumption)) (by omega))) ?_
                        refine VL.r (.inl rfl) rfl (by decide) (yr_not rfl rfl) ?_
                        refine VL.r (.inl rfl) rfl (by decide) (yr_move rfl rfl) ?_
                        refine VX.split 101 _ rfl (fun h12 => ?_) (fun h12 => ?_)
                        · skip
                          replace h12 := bnot_t h12
                          first | (exfalso; omega) | (simp [bcmp] at h12; done)
                        · skip
                          replace h12 := bnot_f h12
                          refine VL.r (.inr ⟨_, _, _, rfl, rfl, rfl⟩) rfl (by decide) (yr_move rfl rfl) ?_
                          refine VL.r (.inr ⟨_, _, _, rfl, rfl, rfl⟩) rfl (by decide) (yr_move rfl rfl) ?_
                          refine VL.r (.inr ⟨_, _, _, rfl, rfl, rfl⟩) rfl (by decide) (yr_bcmp rfl Try.underlying4 rfl rfl (.inr rfl)) ?_
                          refine VL.r (.inl rfl) rfl (by decide) (yr_pick_f rfl rfl rfl) ?_
                          refine VL.nil ?_
                          refine VE.then_wp ?_
                          refine V.cond rfl (fun h13 => ?_) (fun h13 => ?_)
                          · skip
                            first | (exfalso; omega) | (simp [bcmp] at h13; done)
                          · skip
                            refine V.skip ?_
                            refine VE.then_wp ?_
                            refine V.seq ?_
                            refine V.region ?_
                            refine VL.r (.inl rfl) rfl (by decide) (yr_assign (u := .int .i64 1) rfl rfl) ?_
                            refine VL.nil ?_
                            refine VE.then_wp ?_
                            refine V.seq ?_
                            refine V.region ?_
                            refine VL.r (.inl rfl) rfl (by decide) (yr_move rfl rfl) ?_
                            refine VL.r (.inl rfl) rfl (by decide) (yr_move rfl rfl) ?_
                            refine VL.q (.inl rfl) rfl (by decide) (yq_callf rfl known14_LSolve (.cons rfl (.cons rfl .nil)) (fun w hw => c_heldF (by first | exact Sees.root (by assumption) w hw | exact Sees.at 0 rfl w hw | exact Sees.at 1 rfl w hw | exact Sees.at 2 rfl w hw | exact Sees.at 3 rfl w hw | exact Sees.at 4 rfl w hw | exact Sees.at 5 rfl w hw | exact Sees.at 6 rfl w hw | exact Sees.at 7 rfl w hw | exact Sees.at 8 rfl w hw | exact Sees.at 9 rfl w hw | exact Sees.at 10 rfl w hw | exact Sees.at 11 rfl w hw | exact Sees.at 12 rfl w hw | exact Sees.at 13 rfl w hw | exact Sees.at 14 rfl w hw | exact Sees.at 15 rfl w hw | exact Sees.at 16 rfl w hw | exact Sees.at 17 rfl w hw | exact Sees.at 18 rfl w hw | exact Sees.at 19 rfl w hw | exact Sees.own (List.mem_append.2 (.inr (.head _))) w hw) (by omega) (by omega) (by omega))) ?_
                            refine VL.r (.inl rfl) rfl (by decide) (yr_assign rfl rfl) ?_
                            refine VL.nil ?_
                            refine VE.then_wp ?_
                            refine V.seq ?_
                            refine V.seq ?_
                            refine V.region ?_
                            refine VL.r (.inl rfl) rfl (by decide) (yr_move rfl rfl) ?_
                            refine VL.r (.inl rfl) rfl (by decide) (yr_icmp rfl (.inr (.inr (.inl rfl))) rfl rfl) ?_
                            refine VL.nil ?_
                            refine VE.then_wp ?_
                            refine V.cond rfl (fun h14 => ?_) (fun h14 => ?_)
                            · skip
                              replace h14 := ic_lss h14
                              first | (exfalso; omega) | (simp [bcmp] at h14; done)
                            · skip
                              replace h14 := ic_lss' h14
                              refine V.skip ?_
                              refine VE.then_wp ?_
                              refine V.seq ?_
                              refine V.seq ?_
                              refine V.region ?_
                              refine VL.r (.inl rfl) rfl (by decide) (yr_move rfl rfl) ?_
                              refine VL.r (.inl rfl) rfl (by decide) (yr_move rfl rfl) ?_
                              refine VL.r (.inl rfl) rfl (by decide) (yr_icmp rfl (.inr (.inl rfl)) rfl rfl) ?_
                              refine VL.nil ?_
                              refine VE.then_wp ?_
                              refine V.cond rfl (fun h15 => ?_) (fun h15 => ?_)
                              · skip
                                replace h15 := ic_neq h15
                                first | (exfalso; omega) | (simp [bcmp] at h15; done)
                              · skip
                                replace h15 := ic_neq' h15
                                refine V.skip ?_
                                refine VE.then_wp ?_
                                refine V.seq ?_
                                refine V.region ?_
                                refine VL.r (.inl rfl) rfl (by decide) (yr_assign (u := .bool true) rfl rfl) ?_
                                refine VL.nil ?_
                                refine VE.then_wp ?_
                                refine V.ret ?_
                                refine ret1 rfl rfl (fun w1 hw => ?_)
                                exact ⟨rfl, hw.below⟩

end Go.Proofs.Ytbdbjeaaoaohlaa
