/- Walks: LSteps. Printed by gen.py. -/
import Derived.Test.YtbdbjeaaoaohlaaWSteps
import Derived.KernelRfl
namespace Go.Proofs.Ytbdbjeaaoaohlaa
open Go.RowKit
set_option linter.unusedVariables false
set_option linter.unusedSimpArgs false
set_option maxRecDepth 20000

theorem known10 : Known Try.prog 10 := Known.mk' Try.func10 (by kernel_rfl)
theorem known9 : Known Try.prog 9 := Known.mk' Try.func9 (by kernel_rfl)
theorem known11 : Known Try.prog 11 := Known.mk' Try.func11 (by kernel_rfl)
theorem known12 : Known Try.prog 12 := Known.mk' Try.func12 (by kernel_rfl)
theorem known13 : Known Try.prog 13 := Known.mk' Try.func13 (by kernel_rfl)
theorem known14 : Known Try.prog 14 := Known.mk' Try.func14 (by kernel_rfl)

theorem law_StepsOf {w : World} {a : Option Addr} {c : Nat} {xs : List Nat} {unit : Nat} (hA : Cl w a (fl xs)) (hX : ∀ x ∈ xs, Can .f32 x) : Pure Try.prog 3 [.slice a xs.length c, .float .f32 unit] w (.bool true) := by
  refine Pure.enter Try.func3 rfl Try.ntmps3 (Nat.le_of_ble_eq_true rfl) ?_
  have hS := can_stepsOf xs unit
  have hSl := length_stepsOf xs unit
  refine V.seq ?_
  refine V.region ?_
  refine VL.r (.inl rfl) rfl (by decide) (yr_assign (u := .bool false) rfl rfl) ?_
  refine VL.nil ?_
  refine VE.then_wp ?_
  refine V.seq ?_
  refine V.seq ?_
  refine V.region ?_
  refine VL.r (.inl rfl) rfl (by decide) (yr_move rfl rfl) ?_
  refine VL.r (.inl rfl) rfl (by decide) (yr_len rfl Try.underlying22 rfl) ?_
  refine VL.r (.inl rfl) rfl (by decide) (yr_icmp rfl (.inr (.inr (.inr (.inr (.inl rfl))))) rfl rfl) ?_
  refine VL.nil ?_
  refine VE.then_wp ?_
  refine V.cond rfl (fun h1 => ?_) (fun h1 => ?_)
  · skip
    replace h1 := ic_gtr h1
    refine V.seq ?_
    refine V.region ?_
    refine VL.r (.inl rfl) rfl (by decide) (yr_assign (u := .bool true) rfl rfl) ?_
    refine VL.nil ?_
    refine VE.then_wp ?_
    refine V.ret ?_
    refine VE.then_ret ?_
    refine ret1 rfl rfl (fun w1 hw => ?_)
    exact ⟨rfl, hw.below⟩
  · skip
    replace h1 := ic_gtr' h1
    refine V.skip ?_
    refine VE.then_wp ?_
    refine V.seq ?_
    refine V.region ?_
    refine VL.r (.inl rfl) rfl (by decide) (yr_move rfl rfl) ?_
    refine VL.new1 (.inl rfl) rfl (by decide) (yn_callf rfl known10 (.cons rfl .nil) (fun w hw => c_toF (by first | exact Sees.root (by assumption) w hw | exact Sees.own (.head _) w hw | exact Sees.own (.tail _ (.head _)) w hw | exact Sees.own (.tail _ (.tail _ (.head _))) w hw | exact Sees.own (.tail _ (.tail _ (.tail _ (.head _)))) w hw | exact Sees.own (.tail _ (.tail _ (.tail _ (.tail _ (.head _))))) w hw | exact Sees.own (.tail _ (.tail _ (.tail _ (.tail _ (.tail _ (.head _)))))) w hw | exact Sees.own (.tail _ (.tail _ (.tail _ (.tail _ (.tail _ (.tail _ (.head _))))))) w hw | exact Sees.own (.tail _ (.tail _ (.tail _ (.tail _ (.tail _ (.tail _ (.tail _ (.head _)))))))) w hw | exact Sees.own (List.mem_append.2 (.inr (.head _))) w hw) (by omega))) ?_
    rintro ⟨a20, c20⟩
    refine VL.r (.inl rfl) rfl (by decide) (yr_move rfl rfl) ?_
    refine VL.new1 (.inl rfl) rfl (by decide) (yn_callf rfl known9 (.cons rfl (.cons rfl .nil)) (fun w hw => c_specStepsOf (by first | exact Sees.root (by assumption) w hw | exact Sees.own (.head _) w hw | exact Sees.own (.tail _ (.head _)) w hw | exact Sees.own (.tail _ (.tail _ (.head _))) w hw | exact Sees.own (.tail _ (.tail _ (.tail _ (.head _)))) w hw | exact Sees.own (.tail _ (.tail _ (.tail _ (.tail _ (.head _))))) w hw | exact Sees.own (.tail _ (.tail _ (.tail _ (.tail _ (.tail _ (.head _)))))) w hw | exact Sees.own (.tail _ (.tail _ (.tail _ (.tail _ (.tail _ (.tail _ (.head _))))))) w hw | exact Sees.own (.tail _ (.tail _ (.tail _ (.tail _ (.tail _ (.tail _ (.tail _ (.head _)))))))) w hw | exact Sees.own (List.mem_append.2 (.inr (.head _))) w hw) (by omega))) ?_
    rintro ⟨a22, c22⟩
    refine VL.r (.inl rfl) rfl (by decide) (yr_move rfl rfl) ?_
    refine VL.r (.inl rfl) rfl (by decide) (yr_extract rfl rfl rfl (by nofun)) ?_
    refine VL.r (.inl rfl) rfl (by decide) (yr_extract rfl rfl rfl (by nofun)) ?_
    refine VL.r (.inl rfl) rfl (by decide) (yr_assign rfl rfl) ?_
    refine VL.r (.inl rfl) rfl (by decide) (yr_assign rfl rfl) ?_
    refine VL.nil ?_
    refine VE.then_wp ?_
    refine V.seq ?_
    refine V.region ?_
    refine VL.r (.inl rfl) rfl (by decide) (yr_move rfl rfl) ?_
    refine VL.new1 (.inl rfl) rfl (by decide) (yn_callf rfl known10 (.cons rfl .nil) (fun w hw => c_toF (by first | exact Sees.root (by assumption) w hw | exact Sees.own (.head _) w hw | exact Sees.own (.tail _ (.head _)) w hw | exact Sees.own (.tail _ (.tail _ (.head _))) w hw | exact Sees.own (.tail _ (.tail _ (.tail _ (.head _)))) w hw | exact Sees.own (.tail _ (.tail _ (.tail _ (.tail _ (.head _))))) w hw | exact Sees.own (.tail _ (.tail _ (.tail _ (.tail _ (.tail _ (.head _)))))) w hw | exact Sees.own (.tail _ (.tail _ (.tail _ (.tail _ (.tail _ (.tail _ (.head _))))))) w hw | exact Sees.own (.tail _ (.tail _ (.tail _ (.tail _ (.tail _ (.tail _ (.tail _ (.head _)))))))) w hw | exact Sees.own (List.mem_append.2 (.inr (.head _))) w hw) (by omega))) ?_
    rintro ⟨a26, c26⟩
    refine VL.r (.inl rfl) rfl (by decide) (yr_assign rfl rfl) ?_
    refine VL.nil ?_
    refine VE.then_wp ?_
    refine V.seq ?_
    refine V.region ?_
    refine VL.r (.inl rfl) rfl (by decide) (yr_move rfl rfl) ?_
    refine VL.r (.inl rfl) rfl (by decide) (yr_move rfl rfl) ?_
    refine VL.new1 (.inl rfl) rfl (by decide) (yn_callf rfl known11 (.cons rfl (.cons rfl .nil)) (fun w hw => c_implStepsOf (by first | exact Sees.root (by assumption) w hw | exact Sees.own (.head _) w hw | exact Sees.own (.tail _ (.head _)) w hw | exact Sees.own (.tail _ (.tail _ (.head _))) w hw | exact Sees.own (.tail _ (.tail _ (.tail _ (.head _)))) w hw | exact Sees.own (.tail _ (.tail _ (.tail _ (.tail _ (.head _))))) w hw | exact Sees.own (.tail _ (.tail _ (.tail _ (.tail _ (.tail _ (.head _)))))) w hw | exact Sees.own (.tail _ (.tail _ (.tail _ (.tail _ (.tail _ (.tail _ (.head _))))))) w hw | exact Sees.own (.tail _ (.tail _ (.tail _ (.tail _ (.tail _ (.tail _ (.tail _ (.head _)))))))) w hw | exact Sees.own (List.mem_append.2 (.inr (.head _))) w hw) (by omega))) ?_
    rintro ⟨a30, c30⟩
    refine VL.r (.inl rfl) rfl (by decide) (yr_move rfl rfl) ?_
    refine VL.r (.inl rfl) rfl (by decide) (yr_extract rfl rfl rfl (by nofun)) ?_
    refine VL.r (.inl rfl) rfl (by decide) (yr_extract rfl rfl rfl (by nofun)) ?_
    refine VL.r (.inl rfl) rfl (by decide) (yr_assign rfl rfl) ?_
    refine VL.r (.inl rfl) rfl (by decide) (yr_assign rfl rfl) ?_
    refine VL.nil ?_
    refine VE.then_wp ?_
    refine V.seq ?_
    refine V.seq ?_
    refine V.region ?_
    refine VL.r (.inl rfl) rfl (by decide) (yr_move rfl rfl) ?_
    refine VL.r (.inl rfl) rfl (by decide) (yr_move rfl rfl) ?_
    refine VL.q (.inl rfl) rfl (by decide) (yq_callf rfl known12 (.cons rfl (.cons rfl .nil)) (fun w hw => c_eqF (by first | exact Sees.root (by assumption) w hw | exact Sees.own (.head _) w hw | exact Sees.own (.tail _ (.head _)) w hw | exact Sees.own (.tail _ (.tail _ (.head _))) w hw | exact Sees.own (.tail _ (.tail _ (.tail _ (.head _)))) w hw | exact Sees.own (.tail _ (.tail _ (.tail _ (.tail _ (.head _))))) w hw | exact Sees.own (.tail _ (.tail _ (.tail _ (.tail _ (.tail _ (.head _)))))) w hw | exact Sees.own (.tail _ (.tail _ (.tail _ (.tail _ (.tail _ (.tail _ (.head _))))))) w hw | exact Sees.own (.tail _ (.tail _ (.tail _ (.tail _ (.tail _ (.tail _ (.tail _ (.head _)))))))) w hw | exact Sees.own (List.mem_append.2 (.inr (.head _))) w hw) (by first | exact Sees.root (by assumption) w hw | exact Sees.own (.head _) w hw | exact Sees.own (.tail _ (.head _)) w hw | exact Sees.own (.tail _ (.tail _ (.head _))) w hw | exact Sees.own (.tail _ (.tail _ (.tail _ (.head _)))) w hw | exact Sees.own (.tail _ (.tail _ (.tail _ (.tail _ (.head _))))) w hw | exact Sees.own (.tail _ (.tail _ (.tail _ (.tail _ (.tail _ (.head _)))))) w hw | exact Sees.own (.tail _ (.tail _ (.tail _ (.tail _ (.tail _ (.tail _ (.head _))))))) w hw | exact Sees.own (.tail _ (.tail _ (.tail _ (.tail _ (.tail _ (.tail _ (.tail _ (.head _)))))))) w hw | exact Sees.own (List.mem_append.2 (.inr (.head _))) w hw) (by first | assumption | exact can_up _ | exact can_fop _ _ _ _ | exact can_of _ (by assumption)) (by first | assumption | exact can_up _ | exact can_fop _ _ _ _ | exact can_of _ (by assumption)) (by omega))) ?_
    refine VL.r (.inl rfl) rfl (by decide) (yr_not rfl rfl) ?_
    refine VL.r (.inl rfl) rfl (by decide) (yr_move rfl rfl) ?_
    refine VX.split 37 _ rfl (fun h2 => ?_) (fun h2 => ?_)
    · skip
      replace h2 := bnot_t h2
      simp [bcmp] at h2
    · skip
      replace h2 := bnot_f h2
      refine VL.r (.inr ⟨_, _, _, rfl, rfl, rfl⟩) rfl (by decide) (yr_move rfl rfl) ?_
      refine VL.r (.inr ⟨_, _, _, rfl, rfl, rfl⟩) rfl (by decide) (yr_move rfl rfl) ?_
      refine VL.r (.inr ⟨_, _, _, rfl, rfl, rfl⟩) rfl (by decide) (yr_bcmp rfl Try.underlying4 rfl rfl (.inr rfl)) ?_
      refine VL.r (.inl rfl) rfl (by decide) (yr_pick_f rfl rfl rfl) ?_
      refine VL.nil ?_
      refine VE.then_wp ?_
      refine V.cond rfl (fun h3 => ?_) (fun h3 => ?_)
      · skip
        simp [bcmp] at h3
      · skip
        refine V.skip ?_
        refine VE.then_wp ?_
        refine V.seq ?_
        refine V.seq ?_
        refine V.region ?_
        refine VL.r (.inl rfl) rfl (by decide) (yr_move rfl rfl) ?_
        refine VL.r (.inl rfl) rfl (by decide) (yr_move rfl rfl) ?_
        refine VL.new1 (.inl rfl) rfl (by decide) (yn_callf rfl known10 (.cons rfl .nil) (fun w hw => c_toF (by first | exact Sees.root (by assumption) w hw | exact Sees.own (.head _) w hw | exact Sees.own (.tail _ (.head _)) w hw | exact Sees.own (.tail _ (.tail _ (.head _))) w hw | exact Sees.own (.tail _ (.tail _ (.tail _ (.head _)))) w hw | exact Sees.own (.tail _ (.tail _ (.tail _ (.tail _ (.head _))))) w hw | exact Sees.own (.tail _ (.tail _ (.tail _ (.tail _ (.tail _ (.head _)))))) w hw | exact Sees.own (.tail _ (.tail _ (.tail _ (.tail _ (.tail _ (.tail _ (.head _))))))) w hw | exact Sees.own (.tail _ (.tail _ (.tail _ (.tail _ (.tail _ (.tail _ (.tail _ (.head _)))))))) w hw | exact Sees.own (List.mem_append.2 (.inr (.head _))) w hw) (by omega))) ?_
        rintro ⟨a44, c44⟩
        refine VL.q (.inl rfl) rfl (by decide) (yq_callf rfl known12 (.cons rfl (.cons rfl .nil)) (fun w hw => c_eqF (by first | exact Sees.root (by assumption) w hw | exact Sees.own (.head _) w hw | exact Sees.own (.tail _ (.head _)) w hw | exact Sees.own (.tail _ (.tail _ (.head _))) w hw | exact Sees.own (.tail _ (.tail _ (.tail _ (.head _)))) w hw | exact Sees.own (.tail _ (.tail _ (.tail _ (.tail _ (.head _))))) w hw | exact Sees.own (.tail _ (.tail _ (.tail _ (.tail _ (.tail _ (.head _)))))) w hw | exact Sees.own (.tail _ (.tail _ (.tail _ (.tail _ (.tail _ (.tail _ (.head _))))))) w hw | exact Sees.own (.tail _ (.tail _ (.tail _ (.tail _ (.tail _ (.tail _ (.tail _ (.head _)))))))) w hw | exact Sees.own (List.mem_append.2 (.inr (.head _))) w hw) (by first | exact Sees.root (by assumption) w hw | exact Sees.own (.head _) w hw | exact Sees.own (.tail _ (.head _)) w hw | exact Sees.own (.tail _ (.tail _ (.head _))) w hw | exact Sees.own (.tail _ (.tail _ (.tail _ (.head _)))) w hw | exact Sees.own (.tail _ (.tail _ (.tail _ (.tail _ (.head _))))) w hw | exact Sees.own (.tail _ (.tail _ (.tail _ (.tail _ (.tail _ (.head _)))))) w hw | exact Sees.own (.tail _ (.tail _ (.tail _ (.tail _ (.tail _ (.tail _ (.head _))))))) w hw | exact Sees.own (.tail _ (.tail _ (.tail _ (.tail _ (.tail _ (.tail _ (.tail _ (.head _)))))))) w hw | exact Sees.own (List.mem_append.2 (.inr (.head _))) w hw) (by first | assumption | exact can_up _ | exact can_fop _ _ _ _ | exact can_of _ (by assumption)) (by first | assumption | exact can_up _ | exact can_fop _ _ _ _ | exact can_of _ (by assumption)) (by omega))) ?_
        refine VL.r (.inl rfl) rfl (by decide) (yr_not rfl rfl) ?_
        refine VL.nil ?_
        refine VE.then_wp ?_
        refine V.cond rfl (fun h4 => ?_) (fun h4 => ?_)
        · skip
          replace h4 := bnot_t h4
          simp [bcmp] at h4
        · skip
          replace h4 := bnot_f h4
          refine V.skip ?_
          refine VE.then_wp ?_
          refine V.seq ?_
          refine V.region ?_
          refine VL.r (.inl rfl) rfl (by decide) (yr_assign (u := .int .i64 1) rfl rfl) ?_
          refine VL.nil ?_
          refine VE.then_wp ?_
          refine V.seq ?_
          refine V.region ?_
          refine VL.r (.inl rfl) rfl (by decide) (yr_move rfl rfl) ?_
          refine VL.r (.inl rfl) rfl (by decide) (yr_move rfl rfl) ?_
          refine VL.c (.inl rfl) rfl (by decide) (yc_callf rfl known13 (.cons rfl (.cons rfl .nil)) (by first | exact .take .here .nil | exact .take (.there .here) .nil | exact .take (.there (.there .here)) .nil | exact .take (.there (.there (.there .here))) .nil | exact .take (.there (.there (.there (.there .here)))) .nil | exact .take (.there (.there (.there (.there (.there .here))))) .nil | exact .take (.there (.there (.there (.there (.there (.there .here)))))) .nil | exact .take (.there (.there (.there (.there (.there (.there (.there .here))))))) .nil) (c_markF (by omega) (by omega) (by omega))) ?_
          rintro ⟨⟩
          refine VL.r (.inl rfl) rfl (by decide) (yr_assign rfl rfl) ?_
          refine VL.nil ?_
          refine VE.then_wp ?_
          refine V.seq ?_
          refine V.seq ?_
          refine V.region ?_
          refine VL.r (.inl rfl) rfl (by decide) (yr_move rfl rfl) ?_
          refine VL.r (.inl rfl) rfl (by decide) (yr_icmp rfl (.inr (.inr (.inl rfl))) rfl rfl) ?_
          refine VL.r (.inl rfl) rfl (by decide) (yr_move rfl rfl) ?_
          refine VX.split 52 _ rfl (fun h5 => ?_) (fun h5 => ?_)
          · skip
            replace h5 := ic_lss h5
            exfalso; omega
          · skip
            replace h5 := ic_lss' h5
            refine VL.r (.inr ⟨_, _, _, rfl, rfl, rfl⟩) rfl (by decide) (yr_move rfl rfl) ?_
            refine VL.r (.inr ⟨_, _, _, rfl, rfl, rfl⟩) rfl (by decide) (yr_move rfl rfl) ?_
            refine VL.q (.inr ⟨_, _, _, rfl, rfl, rfl⟩) rfl (by decide) (yq_callf rfl known12 (.cons rfl (.cons rfl .nil)) (fun w hw => c_eqF (by first | exact Sees.root (by assumption) w hw | exact Sees.own (.head _) w hw | exact Sees.own (.tail _ (.head _)) w hw | exact Sees.own (.tail _ (.tail _ (.head _))) w hw | exact Sees.own (.tail _ (.tail _ (.tail _ (.head _)))) w hw | exact Sees.own (.tail _ (.tail _ (.tail _ (.tail _ (.head _))))) w hw | exact Sees.own (.tail _ (.tail _ (.tail _ (.tail _ (.tail _ (.head _)))))) w hw | exact Sees.own (.tail _ (.tail _ (.tail _ (.tail _ (.tail _ (.tail _ (.head _))))))) w hw | exact Sees.own (.tail _ (.tail _ (.tail _ (.tail _ (.tail _ (.tail _ (.tail _ (.head _)))))))) w hw | exact Sees.own (List.mem_append.2 (.inr (.head _))) w hw) (by first | exact Sees.root (by assumption) w hw | exact Sees.own (.head _) w hw | exact Sees.own (.tail _ (.head _)) w hw | exact Sees.own (.tail _ (.tail _ (.head _))) w hw | exact Sees.own (.tail _ (.tail _ (.tail _ (.head _)))) w hw | exact Sees.own (.tail _ (.tail _ (.tail _ (.tail _ (.head _))))) w hw | exact Sees.own (.tail _ (.tail _ (.tail _ (.tail _ (.tail _ (.head _)))))) w hw | exact Sees.own (.tail _ (.tail _ (.tail _ (.tail _ (.tail _ (.tail _ (.head _))))))) w hw | exact Sees.own (.tail _ (.tail _ (.tail _ (.tail _ (.tail _ (.tail _ (.tail _ (.head _)))))))) w hw | exact Sees.own (List.mem_append.2 (.inr (.head _))) w hw) (by first | assumption | exact can_up _ | exact can_fop _ _ _ _ | exact can_of _ (by assumption)) (by first | assumption | exact can_up _ | exact can_fop _ _ _ _ | exact can_of _ (by assumption)) (by omega))) ?_
            refine VL.r (.inr ⟨_, _, _, rfl, rfl, rfl⟩) rfl (by decide) (yr_not rfl rfl) ?_
            refine VL.r (.inl rfl) rfl (by decide) (yr_pick_f rfl rfl rfl) ?_
            refine VL.r (.inl rfl) rfl (by decide) (yr_move rfl rfl) ?_
            refine VX.split 58 _ rfl (fun h6 => ?_) (fun h6 => ?_)
            · skip
              replace h6 := bnot_t h6
              simp [bcmp] at h6
            · skip
              replace h6 := bnot_f h6
              refine VL.r (.inr ⟨_, _, _, rfl, rfl, rfl⟩) rfl (by decide) (yr_move rfl rfl) ?_
              refine VL.r (.inr ⟨_, _, _, rfl, rfl, rfl⟩) rfl (by decide) (yr_move rfl rfl) ?_
              refine VL.r (.inr ⟨_, _, _, rfl, rfl, rfl⟩) rfl (by decide) (yr_bcmp rfl Try.underlying4 rfl rfl (.inr rfl)) ?_
              refine VL.r (.inl rfl) rfl (by decide) (yr_pick_f rfl rfl rfl) ?_
              refine VL.nil ?_
              refine VE.then_wp ?_
              refine V.cond rfl (fun h7 => ?_) (fun h7 => ?_)
              · skip
                simp [bcmp] at h7
              · skip
                refine V.skip ?_
                refine VE.then_wp ?_
                refine V.seq ?_
                refine V.region ?_
                refine VL.r (.inl rfl) rfl (by decide) (yr_assign (u := .int .i64 1) rfl rfl) ?_
                refine VL.nil ?_
                refine VE.then_wp ?_
                refine V.seq ?_
                refine V.region ?_
                refine VL.r (.inl rfl) rfl (by decide) (yr_move rfl rfl) ?_
                refine VL.r (.inl rfl) rfl (by decide) (yr_move rfl rfl) ?_
                refine VL.c (.inl rfl) rfl (by decide) (yc_callf rfl known13 (.cons rfl (.cons rfl .nil)) (by first | exact .take .here .nil | exact .take (.there .here) .nil | exact .take (.there (.there .here)) .nil | exact .take (.there (.there (.there .here))) .nil | exact .take (.there (.there (.there (.there .here)))) .nil | exact .take (.there (.there (.there (.there (.there .here))))) .nil | exact .take (.there (.there (.there (.there (.there (.there .here)))))) .nil | exact .take (.there (.there (.there (.there (.there (.there (.there .here))))))) .nil) (c_markF (by omega) (by omega) (by omega))) ?_
                rintro ⟨⟩
                refine VL.r (.inl rfl) rfl (by decide) (yr_assign rfl rfl) ?_
                refine VL.nil ?_
                refine VE.then_wp ?_
                refine V.seq ?_
                refine V.region ?_
                refine VL.r (.inl rfl) rfl (by decide) (yr_assign (u := .int .i64 1) rfl rfl) ?_
                refine VL.nil ?_
                refine VE.then_wp ?_
                refine V.seq ?_
                refine V.region ?_
                refine VL.r (.inl rfl) rfl (by decide) (yr_move rfl rfl) ?_
                refine VL.r (.inl rfl) rfl (by decide) (yr_move rfl rfl) ?_
                refine VL.q (.inl rfl) rfl (by decide) (yq_callf rfl known14 (.cons rfl (.cons rfl .nil)) (fun w hw => c_heldF (by first | exact Sees.root (by assumption) w hw | exact Sees.own (.head _) w hw | exact Sees.own (.tail _ (.head _)) w hw | exact Sees.own (.tail _ (.tail _ (.head _))) w hw | exact Sees.own (.tail _ (.tail _ (.tail _ (.head _)))) w hw | exact Sees.own (.tail _ (.tail _ (.tail _ (.tail _ (.head _))))) w hw | exact Sees.own (.tail _ (.tail _ (.tail _ (.tail _ (.tail _ (.head _)))))) w hw | exact Sees.own (.tail _ (.tail _ (.tail _ (.tail _ (.tail _ (.tail _ (.head _))))))) w hw | exact Sees.own (.tail _ (.tail _ (.tail _ (.tail _ (.tail _ (.tail _ (.tail _ (.head _)))))))) w hw | exact Sees.own (List.mem_append.2 (.inr (.head _))) w hw) (by omega) (by omega) (by omega))) ?_
                refine VL.r (.inl rfl) rfl (by decide) (yr_assign rfl rfl) ?_
                refine VL.nil ?_
                refine VE.then_wp ?_
                refine V.seq ?_
                refine V.seq ?_
                refine V.region ?_
                refine VL.r (.inl rfl) rfl (by decide) (yr_move rfl rfl) ?_
                refine VL.r (.inl rfl) rfl (by decide) (yr_icmp rfl (.inr (.inr (.inl rfl))) rfl rfl) ?_
                refine VL.nil ?_
                refine VE.then_wp ?_
                refine V.cond rfl (fun h8 => ?_) (fun h8 => ?_)
                · skip
                  replace h8 := ic_lss h8
                  exfalso; omega
                · skip
                  replace h8 := ic_lss' h8
                  refine V.skip ?_
                  refine VE.then_wp ?_
                  refine V.seq ?_
                  refine V.seq ?_
                  refine V.region ?_
                  refine VL.r (.inl rfl) rfl (by decide) (yr_move rfl rfl) ?_
                  refine VL.r (.inl rfl) rfl (by decide) (yr_move rfl rfl) ?_
                  refine VL.r (.inl rfl) rfl (by decide) (yr_icmp rfl (.inr (.inl rfl)) rfl rfl) ?_
                  refine VL.nil ?_
                  refine VE.then_wp ?_
                  refine V.cond rfl (fun h9 => ?_) (fun h9 => ?_)
                  · skip
                    replace h9 := ic_neq h9
                    exfalso; omega
                  · skip
                    replace h9 := ic_neq' h9
                    refine V.skip ?_
                    refine VE.then_wp ?_
                    refine V.seq ?_
                    refine V.region ?_
                    refine VL.r (.inl rfl) rfl (by decide) (yr_move rfl rfl) ?_
                    refine VL.new1 (.inl rfl) rfl (by decide) (yn_callf rfl known10 (.cons rfl .nil) (fun w hw => c_toF (by first | exact Sees.root (by assumption) w hw | exact Sees.own (.head _) w hw | exact Sees.own (.tail _ (.head _)) w hw | exact Sees.own (.tail _ (.tail _ (.head _))) w hw | exact Sees.own (.tail _ (.tail _ (.tail _ (.head _)))) w hw | exact Sees.own (.tail _ (.tail _ (.tail _ (.tail _ (.head _))))) w hw | exact Sees.own (.tail _ (.tail _ (.tail _ (.tail _ (.tail _ (.head _)))))) w hw | exact Sees.own (.tail _ (.tail _ (.tail _ (.tail _ (.tail _ (.tail _ (.head _))))))) w hw | exact Sees.own (.tail _ (.tail _ (.tail _ (.tail _ (.tail _ (.tail _ (.tail _ (.head _)))))))) w hw | exact Sees.own (List.mem_append.2 (.inr (.head _))) w hw) (by omega))) ?_
                    rintro ⟨a76, c76⟩
                    refine VL.r (.inl rfl) rfl (by decide) (yr_move rfl rfl) ?_
                    refine VL.new1 (.inl rfl) rfl (by decide) (yn_callf rfl known11 (.cons rfl (.cons rfl .nil)) (fun w hw => c_implStepsOf (by first | exact Sees.root (by assumption) w hw | exact Sees.own (.head _) w hw | exact Sees.own (.tail _ (.head _)) w hw | exact Sees.own (.tail _ (.tail _ (.head _))) w hw | exact Sees.own (.tail _ (.tail _ (.tail _ (.head _)))) w hw | exact Sees.own (.tail _ (.tail _ (.tail _ (.tail _ (.head _))))) w hw | exact Sees.own (.tail _ (.tail _ (.tail _ (.tail _ (.tail _ (.head _)))))) w hw | exact Sees.own (.tail _ (.tail _ (.tail _ (.tail _ (.tail _ (.tail _ (.head _))))))) w hw | exact Sees.own (.tail _ (.tail _ (.tail _ (.tail _ (.tail _ (.tail _ (.tail _ (.head _)))))))) w hw | exact Sees.own (List.mem_append.2 (.inr (.head _))) w hw) (by omega))) ?_
                    rintro ⟨a78, c78⟩
                    refine VL.r (.inl rfl) rfl (by decide) (yr_move rfl rfl) ?_
                    refine VL.r (.inl rfl) rfl (by decide) (yr_extract rfl rfl rfl (by nofun)) ?_
                    refine VL.r (.inl rfl) rfl (by decide) (yr_extract rfl rfl rfl (by nofun)) ?_
                    refine VL.r (.inl rfl) rfl (by decide) (yr_assign rfl rfl) ?_
                    refine VL.r (.inl rfl) rfl (by decide) (yr_assign rfl rfl) ?_
                    refine VL.nil ?_
                    refine VE.then_wp ?_
                    refine V.seq ?_
                    refine V.seq ?_
                    refine V.region ?_
                    refine VL.r (.inl rfl) rfl (by decide) (yr_move rfl rfl) ?_
                    refine VL.r (.inl rfl) rfl (by decide) (yr_move rfl rfl) ?_
                    refine VL.q (.inl rfl) rfl (by decide) (yq_callf rfl known12 (.cons rfl (.cons rfl .nil)) (fun w hw => c_eqF (by first | exact Sees.root (by assumption) w hw | exact Sees.own (.head _) w hw | exact Sees.own (.tail _ (.head _)) w hw | exact Sees.own (.tail _ (.tail _ (.head _))) w hw | exact Sees.own (.tail _ (.tail _ (.tail _ (.head _)))) w hw | exact Sees.own (.tail _ (.tail _ (.tail _ (.tail _ (.head _))))) w hw | exact Sees.own (.tail _ (.tail _ (.tail _ (.tail _ (.tail _ (.head _)))))) w hw | exact Sees.own (.tail _ (.tail _ (.tail _ (.tail _ (.tail _ (.tail _ (.head _))))))) w hw | exact Sees.own (.tail _ (.tail _ (.tail _ (.tail _ (.tail _ (.tail _ (.tail _ (.head _)))))))) w hw | exact Sees.own (List.mem_append.2 (.inr (.head _))) w hw) (by first | exact Sees.root (by assumption) w hw | exact Sees.own (.head _) w hw | exact Sees.own (.tail _ (.head _)) w hw | exact Sees.own (.tail _ (.tail _ (.head _))) w hw | exact Sees.own (.tail _ (.tail _ (.tail _ (.head _)))) w hw | exact Sees.own (.tail _ (.tail _ (.tail _ (.tail _ (.head _))))) w hw | exact Sees.own (.tail _ (.tail _ (.tail _ (.tail _ (.tail _ (.head _)))))) w hw | exact Sees.own (.tail _ (.tail _ (.tail _ (.tail _ (.tail _ (.tail _ (.head _))))))) w hw | exact Sees.own (.tail _ (.tail _ (.tail _ (.tail _ (.tail _ (.tail _ (.tail _ (.head _)))))))) w hw | exact Sees.own (List.mem_append.2 (.inr (.head _))) w hw) (by first | assumption | exact can_up _ | exact can_fop _ _ _ _ | exact can_of _ (by assumption)) (by first | assumption | exact can_up _ | exact can_fop _ _ _ _ | exact can_of _ (by assumption)) (by omega))) ?_
                    refine VL.r (.inl rfl) rfl (by decide) (yr_not rfl rfl) ?_
                    refine VL.r (.inl rfl) rfl (by decide) (yr_move rfl rfl) ?_
                    refine VX.split 85 _ rfl (fun h10 => ?_) (fun h10 => ?_)
                    · skip
                      replace h10 := bnot_t h10
                      simp [bcmp] at h10
                    · skip
                      replace h10 := bnot_f h10
                      refine VL.r (.inr ⟨_, _, _, rfl, rfl, rfl⟩) rfl (by decide) (yr_move rfl rfl) ?_
                      refine VL.r (.inr ⟨_, _, _, rfl, rfl, rfl⟩) rfl (by decide) (yr_move rfl rfl) ?_
                      refine VL.r (.inr ⟨_, _, _, rfl, rfl, rfl⟩) rfl (by decide) (yr_bcmp rfl Try.underlying4 rfl rfl (.inr rfl)) ?_
                      refine VL.r (.inl rfl) rfl (by decide) (yr_pick_f rfl rfl rfl) ?_
                      refine VL.nil ?_
                      refine VE.then_wp ?_
                      refine V.cond rfl (fun h11 => ?_) (fun h11 => ?_)
                      · skip
                        simp [bcmp] at h11
                      · skip
                        refine V.skip ?_
                        refine VE.then_wp ?_
                        refine V.seq ?_
                        refine V.region ?_
                        refine VL.r (.inl rfl) rfl (by decide) (yr_assign (u := .int .i64 1) rfl rfl) ?_
                        refine VL.nil ?_
                        refine VE.then_wp ?_
                        refine V.seq ?_
                        refine V.region ?_
                        refine VL.r (.inl rfl) rfl (by decide) (yr_move rfl rfl) ?_
                        refine VL.r (.inl rfl) rfl (by decide) (yr_move rfl rfl) ?_
                        refine VL.q (.inl rfl) rfl (by decide) (yq_callf rfl known14 (.cons rfl (.cons rfl .nil)) (fun w hw => c_heldF (by first | exact Sees.root (by assumption) w hw | exact Sees.own (.head _) w hw | exact Sees.own (.tail _ (.head _)) w hw | exact Sees.own (.tail _ (.tail _ (.head _))) w hw | exact Sees.own (.tail _ (.tail _ (.tail _ (.head _)))) w hw | exact Sees.own (.tail _ (.tail _ (.tail _ (.tail _ (.head _))))) w hw | exact Sees.own (.tail _ (.tail _ (.tail _ (.tail _ (.tail _ (.head _)))))) w hw | exact Sees.own (.tail _ (.tail _ (.tail _ (.tail _ (.tail _ (.tail _ (.head _))))))) w hw | exact Sees.own (.tail _ (.tail _ (.tail _ (.tail _ (.tail _ (.tail _ (.tail _ (.head _)))))))) w hw | exact Sees.own (List.mem_append.2 (.inr (.head _))) w hw) (by omega) (by omega) (by omega))) ?_
                        refine VL.r (.inl rfl) rfl (by decide) (yr_assign rfl rfl) ?_
                        refine VL.nil ?_
                        refine VE.then_wp ?_
                        refine V.seq ?_
                        refine V.seq ?_
                        refine V.region ?_
                        refine VL.r (.inl rfl) rfl (by decide) (yr_move rfl rfl) ?_
                        refine VL.r (.inl rfl) rfl (by decide) (yr_icmp rfl (.inr (.inr (.inl rfl))) rfl rfl) ?_
                        refine VL.nil ?_
                        refine VE.then_wp ?_
                        refine V.cond rfl (fun h12 => ?_) (fun h12 => ?_)
                        · skip
                          replace h12 := ic_lss h12
                          exfalso; omega
                        · skip
                          replace h12 := ic_lss' h12
                          refine V.skip ?_
                          refine VE.then_wp ?_
                          refine V.seq ?_
                          refine V.seq ?_
                          refine V.region ?_
                          refine VL.r (.inl rfl) rfl (by decide) (yr_move rfl rfl) ?_
                          refine VL.r (.inl rfl) rfl (by decide) (yr_move rfl rfl) ?_
                          refine VL.r (.inl rfl) rfl (by decide) (yr_icmp rfl (.inr (.inl rfl)) rfl rfl) ?_
                          refine VL.nil ?_
                          refine VE.then_wp ?_
                          refine V.cond rfl (fun h13 => ?_) (fun h13 => ?_)
                          · skip
                            replace h13 := ic_neq h13
                            exfalso; omega
                          · skip
                            replace h13 := ic_neq' h13
                            refine V.skip ?_
                            refine VE.then_wp ?_
                            refine V.seq ?_
                            refine V.region ?_
                            refine VL.r (.inl rfl) rfl (by decide) (yr_assign (u := .bool true) rfl rfl) ?_
                            refine VL.nil ?_
                            refine VE.then_wp ?_
                            refine V.ret ?_
                            refine ret1 rfl rfl (fun w1 hw => ?_)
                            exact ⟨rfl, hw.below⟩

end Go.Proofs.Ytbdbjeaaoaohlaa
