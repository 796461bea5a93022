/- Walks: Solve. Printed by gen.py. -/
import Derived.Test.YtacjcomjnabmhaaWSteps
import Derived.Test.YtacjcomjnabmhaaSolve
import Derived.KernelRfl
namespace Go.Proofs.Ytacjcomjnabmhaa
open Go.RowKit
set_option linter.unusedVariables false
set_option linter.unusedSimpArgs false
set_option maxRecDepth 20000

theorem elt22_Solve : Elt Try.prog 22 [Value.float .f32 0] 4 := Elt.mk' (by kernel_rfl) (by decide)

theorem c_cloneF {w : World} {a : Option Addr} {c : Nat} {xs : List Nat} (hA : Cl w a (fl xs)) (hn : xs.length ≤ 1050000) : New Try.prog 165 [.slice a xs.length c] w (fun p : Option Addr × Nat => .slice p.1 xs.length p.2) (fun p => [⟨p.1, fl xs, p.2 * 1, 22⟩]) := by
  refine New.enter Try.func165 rfl Try.ntmps165 (Nat.le_of_ble_eq_true rfl) ?_
  refine V.seq ?_
  refine V.region ?_
  refine VL.r (.inl rfl) rfl (by decide) (yr_assign (u := .slice none 0 0) rfl rfl) ?_
  refine VL.nil ?_
  refine VE.then_wp ?_
  refine V.seq ?_
  refine V.seq ?_
  refine V.region ?_
  refine VL.r (.inl rfl) rfl (by decide) (yr_move rfl rfl) ?_
  refine VL.r (.inl rfl) rfl (by decide) (yr_nileq rfl Try.underlying29 rfl rfl) ?_
  refine VL.nil ?_
  refine VE.then_wp ?_
  refine V.cond rfl (fun h1 => ?_) (fun h1 => ?_)
  · skip
    refine V.seq ?_
    refine V.region ?_
    refine VL.r (.inl rfl) rfl (by decide) (yr_assign (u := .slice none 0 0) rfl rfl) ?_
    refine VL.nil ?_
    refine VE.then_wp ?_
    refine V.ret ?_
    refine VE.then_ret ?_
    refine ret1 rfl rfl (fun w1 hw => ?_)
    have hx : xs = [] := by
      rcases hA with h | ⟨p, h, _⟩
      · exact fl_inj h
      · rw [h] at h1; cases h1
    subst hx
    exact ⟨(none, 0), rfl, hw.below, by simp [fl, Ent.at], List.pairwise_singleton _ _⟩
  · skip
    refine V.skip ?_
    refine VE.then_wp ?_
    refine V.seq ?_
    refine V.region ?_
    refine VL.new1 (.inl rfl) rfl (by decide) (yn_lit rfl Try.underlying29 elt22_Solve rfl (by decide) .nil (by first | (simp; done) | (simp [cn, cn1, cn0]; done)) rfl rfl rfl) ?_
    intro b5
    refine VL.r (.inl rfl) rfl (by decide) (yr_move rfl rfl) ?_
    refine VL.c (.inl rfl) rfl (by decide) (yc_appendz 1 rfl rfl Try.underlying29 elt22_Solve rfl rfl (by repeat (first | exact UpdF.here | apply UpdF.there | apply UpdF.thereS)) (by first | exact Sees.root (by assumption) | exact Sees.own (by repeat (first | exact List.mem_cons_self | exact List.mem_append_left _ (by assumption) | apply List.mem_cons_of_mem | apply List.mem_append_right)) | exact Sees.root (hR _ (by omega)) | exact Sees.own (RowsIn.mem (by repeat (first | exact RowsIn.here | exact RowsIn.last | apply RowsIn.there | apply RowsIn.thereS)) _ (by omega)) | exact Sees.own (WRowsIn.mem (by repeat (first | exact WRowsIn.here | exact WRowsIn.last | apply WRowsIn.there | apply WRowsIn.thereS)) _ (by omega))) rfl (by simp) (by rw [fl_length]; omega) (by first | rfl | exact fl_scal _) (by first | rfl | exact fl_scal _) (by omega) (by omega)) ?_
    rintro ⟨a7, c7⟩
    refine VL.r (.inl rfl) rfl (by decide) (yr_assign rfl rfl) ?_
    refine VL.nil ?_
    refine VE.then_wp ?_
    refine V.ret ?_
    refine ret1 rfl rfl (fun w1 hw => ?_)
    exact ⟨(a7, c7), by simp, hw.out1⟩

end Go.Proofs.Ytacjcomjnabmhaa
