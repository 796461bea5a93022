/- Walks: Steps. Printed by gen.py. -/
import Derived.Test.YtbdbjeaaoaohlaaWFl
import Derived.Test.YtbdbjeaaoaohlaaNar
import Derived.KernelRfl
namespace Go.Proofs.Ytbdbjeaaoaohlaa
open Go.RowKit
set_option linter.unusedVariables false
set_option linter.unusedSimpArgs false
set_option maxRecDepth 20000

theorem known31_Steps : Known Try.prog 31 := Known.mk' Try.func31 (by kernel_rfl)
theorem elt23_Steps : Elt Try.prog 23 [Value.float .f32 0] 4 := Elt.mk' (by kernel_rfl) (by decide)
theorem sz23_Steps : (Try.prog.info? 23).map (·.size) = some 1 := by kernel_rfl
theorem fb23_Steps : flatB Try.prog 23 = true := by kernel_rfl
theorem ext30_Steps : ExtF Try.prog 30 (Extern.MathFloor.toIntegral "math.RoundToEven" .even) := ⟨_, Try.func30, by kernel_rfl, by kernel_rfl, by kernel_rfl, by kernel_rfl⟩
theorem known29_Steps : Known Try.prog 29 := Known.mk' Try.func29 (by kernel_rfl)

theorem c_implStepsOf {w : World} {a : Option Addr} {c : Nat} {xs : List Nat} {unit : Nat} (hA : Cl w a (fl xs)) (hn : xs.length ≤ 1048576) : New Try.prog 11 [.slice a xs.length c, .float .f32 unit] w (fun p : Option Addr × Nat => .tuple #[.slice p.1 (stepsOf xs unit).length p.2, .bool (stepsOk xs unit)]) (fun p => [⟨p.1, fl (stepsOf xs unit), p.2 * 1, 23⟩]) := by
  refine New.enter Try.func11 rfl Try.ntmps11 (Nat.le_of_ble_eq_true rfl) ?_
  refine V.seq ?_
  refine V.region ?_
  refine VL.r (.inl rfl) rfl (by decide) (yr_assign (u := .slice none 0 0) rfl rfl) ?_
  refine VL.r (.inl rfl) rfl (by decide) (yr_assign (u := .bool false) rfl rfl) ?_
  refine VL.nil ?_
  refine VE.then_wp ?_
  refine V.seq ?_
  refine V.seq ?_
  refine V.region ?_
  refine VL.r (.inl rfl) rfl (by decide) (yr_move rfl rfl) ?_
  refine VL.r (.inl rfl) rfl (by decide) (yr_len rfl Try.underlying22 rfl) ?_
  refine VL.r (.inl rfl) rfl (by decide) (yr_icmp rfl (.inr (.inr (.inr (.inr (.inl rfl))))) rfl rfl) ?_
  refine VL.r (.inl rfl) rfl (by decide) (yr_move rfl rfl) ?_
  refine VX.split 13 _ rfl (fun h1 => ?_) (fun h1 => ?_)
  · skip
    replace h1 := ic_gtr h1
    refine VL.no rfl rfl rfl rfl rfl (by decide) ?_
    refine VL.no rfl rfl rfl rfl rfl (by decide) ?_
    refine VL.no rfl rfl rfl rfl rfl (by decide) ?_
    refine VL.r (.inl rfl) rfl (by decide) (yr_pick_t (u := .bool true) rfl rfl rfl) ?_
    refine VL.nil ?_
    refine VE.then_wp ?_
    refine V.condT rfl ?_
    refine V.seq ?_
    refine V.region ?_
    refine VL.r (.inl rfl) rfl (by decide) (yr_assign (u := .slice none 0 0) rfl rfl) ?_
    refine VL.r (.inl rfl) rfl (by decide) (yr_assign (u := .bool false) rfl rfl) ?_
    refine VL.nil ?_
    refine VE.then_wp ?_
    refine V.ret ?_
    refine VE.then_ret ?_
    refine ret2 rfl rfl rfl (by nofun) (by nofun) (fun w1 hw => ?_)
    have hs : stepsOk xs unit = false := by simp only [stepsOk, Bool.and_eq_false_iff, decide_eq_false_iff_not]; first | (left; omega) | (right; assumption)
    exact ⟨(none, 0), by simp [stepsOf, hs], hw.below, by simp [stepsOf, hs, fl, Ent.at], List.pairwise_singleton _ _⟩
  · skip
    replace h1 := ic_gtr' h1
    refine VL.r (.inr ⟨_, _, _, rfl, rfl, rfl⟩) rfl (by decide) (yr_move rfl rfl) ?_
    refine VL.q (.inr ⟨_, _, _, rfl, rfl, rfl⟩) rfl (by decide) (yq_callf rfl known31_Steps (.cons rfl .nil) (fun w hw => c_isLength _)) ?_
    refine VL.r (.inr ⟨_, _, _, rfl, rfl, rfl⟩) rfl (by decide) (yr_not rfl rfl) ?_
    refine VL.r (.inl rfl) rfl (by decide) (yr_pick_f rfl rfl rfl) ?_
    refine VL.nil ?_
    refine VE.then_wp ?_
    refine V.cond rfl (fun h3 => ?_) (fun h3 => ?_)
    · skip
      replace h3 := bnot_t h3
      refine V.seq ?_
      refine V.region ?_
      refine VL.r (.inl rfl) rfl (by decide) (yr_assign (u := .slice none 0 0) rfl rfl) ?_
      refine VL.r (.inl rfl) rfl (by decide) (yr_assign (u := .bool false) rfl rfl) ?_
      refine VL.nil ?_
      refine VE.then_wp ?_
      refine V.ret ?_
      refine VE.then_ret ?_
      refine ret2 rfl rfl rfl (by nofun) (by nofun) (fun w1 hw => ?_)
      have hs : stepsOk xs unit = false := by simp only [stepsOk, Bool.and_eq_false_iff, decide_eq_false_iff_not]; first | (left; omega) | (right; assumption)
      exact ⟨(none, 0), by simp [stepsOf, hs], hw.below, by simp [stepsOf, hs, fl, Ent.at], List.pairwise_singleton _ _⟩
    · skip
      replace h3 := bnot_f h3
      refine V.skip ?_
      refine VE.then_wp ?_
      refine V.seq ?_
      refine V.region ?_
      refine VL.new1 (.inl rfl) rfl (by decide) (yn_lit rfl Try.underlying22 elt23_Steps rfl (by decide) .nil (by simp) rfl rfl rfl) ?_
      intro b18
      refine VL.r (.inl rfl) rfl (by decide) (yr_assign rfl rfl) ?_
      refine VL.nil ?_
      refine VE.then_wp ?_
      refine V.seq ?_
      refine V.seq ?_
      refine V.region ?_
      refine VL.r (.inl rfl) rfl (by decide) (yr_move rfl rfl) ?_
      refine VL.r (.inl rfl) rfl (by decide) (yr_len rfl Try.underlying22 rfl) ?_
      refine VL.r (.inl rfl) rfl (by decide) (yr_move (u := .int .i64 0) rfl rfl) ?_
      refine VL.nil ?_
      refine VE.then_wp ?_
      refine V.block ?_
      refine V.loopc (G := Nat × (List Nat) × (Option Addr) × Nat) [(1, _), (19, _), (20, _)] (fun ⟨k, ys, a, c⟩ => k ≤ xs.length ∧ ys = (xs.take k).map (stepOf unit)) (fun ⟨k, ys, a, c⟩ => [⟨a, fl ys, c * 1, 23⟩]) (fun ⟨k, ys, a, c⟩ => [(6, .slice a k c), (21, .int .i64 (k : Int))]) (fun ⟨k, ys, a, c⟩ => xs.length - k) (0, [], some ⟨b18, 0, none⟩, 0) (.cons rfl (.cons rfl (.cons rfl .nil))) (.cons rfl (.cons rfl .nil)) ?_ ?_ ?_
      · exact (fun w hw => hw)
      · exact (by simp)
      rintro ⟨k, ys, a, c⟩ ⟨hk, hys⟩
      show V _ _ _ [⟨a, fl ys, c * 1, 23⟩] ([(6, .slice a k c), (21, .int .i64 (k : Int))] ++ [(1, _), (19, _), (20, _)]) _ _
      have hyl : ys.length = k := by rw [hys]; simp; omega
      refine V.seq ?_
      refine V.region ?_
      refine VL.r (.inl rfl) rfl (by decide) (yr_icmp rfl (.inr (.inr (.inl rfl))) rfl rfl) ?_
      refine VL.nil ?_
      refine VE.then_wp ?_
      refine V.seq ?_
      refine V.cond rfl (fun h4 => ?_) (fun h4 => ?_)
      · skip
        replace h4 := ic_lss h4
        refine V.skip ?_
        refine VE.then_wp ?_
        refine V.seq ?_
        refine V.block ?_
        refine V.seq ?_
        refine V.region ?_
        refine VL.q (.inl rfl) rfl (by decide) (yq_idx (k := k) rfl Try.underlying22 sz23_Steps rfl rfl (by first | exact Sees.root (by assumption) | exact Sees.own (by repeat (first | exact List.mem_cons_self | apply List.mem_cons_of_mem | apply List.mem_append_right))) (by first | rfl | omega | (push_cast; rfl) | (push_cast; omega)) (by first | exact fl_length _ | (rw [fl_length]; omega)) (by omega)) ?_
        refine VL.q (.inl rfl) rfl (by decide) (yq_loadF rfl fb23_Steps rfl (by first | exact Sees.root (by assumption) | exact Sees.own (by repeat (first | exact List.mem_cons_self | apply List.mem_cons_of_mem | apply List.mem_append_right))) (by omega)) ?_
        refine VL.r (.inl rfl) rfl (by decide) (yr_assign rfl rfl) ?_
        refine VL.nil ?_
        refine VE.then_wp ?_
        refine V.seq ?_
        refine V.region ?_
        refine VL.r (.inl rfl) rfl (by decide) (yr_move rfl rfl) ?_
        refine VL.r (.inl rfl) rfl (by decide) (yr_move rfl rfl) ?_
        refine VL.r (.inl rfl) rfl (by decide) (yr_float rfl (.inr (.inr (.inr rfl))) rfl rfl) ?_
        refine VL.r (.inl rfl) rfl (by decide) (yr_fconv rfl Try.underlying23 Try.underlying46 (by decide) rfl (fover_up _)) ?_
        refine VL.q (.inl rfl) rfl (by decide) (yq_ext rfl ext30_Steps (.cons rfl .nil) (fun vs w h => ext_round vs w h)) ?_
        refine VL.r (.inl rfl) rfl (by decide) (yr_fconv rfl Try.underlying46 Try.underlying23 (by decide) rfl (fover_round _)) ?_
        refine VL.r (.inl rfl) rfl (by decide) (yr_assign rfl rfl) ?_
        refine VL.nil ?_
        refine VE.then_wp ?_
        refine V.seq ?_
        refine V.seq ?_
        refine V.region ?_
        refine VL.r (.inl rfl) rfl (by decide) (yr_move rfl rfl) ?_
        refine VL.r (.inl rfl) rfl (by decide) (yr_fcmp (b := 0) rfl (.inl rfl) rfl rfl) ?_
        refine VL.nil ?_
        refine VE.then_wp ?_
        refine V.cond rfl (fun h5 => ?_) (fun h5 => ?_)
        · skip
          refine V.region ?_
          refine VL.r (.inl rfl) rfl (by decide) (yr_assign (u := .float .f32 0) rfl rfl) ?_
          refine VL.nil ?_
          refine VE.then_wp ?_
          refine V.region ?_
          refine VL.r (.inl rfl) rfl (by decide) (yr_move rfl rfl) ?_
          refine VL.r (.inl rfl) rfl (by decide) (yr_move rfl rfl) ?_
          refine VL.r (.inl rfl) rfl (by decide) (yr_move rfl rfl) ?_
          refine VL.r (.inl rfl) rfl (by decide) (yr_float rfl (.inr (.inr (.inl rfl))) rfl rfl) ?_
          refine VL.new1 (.inl rfl) rfl (by decide) (yn_lit rfl Try.underlying22 elt23_Steps rfl (by decide) (.cons rfl .nil) (by simp) rfl rfl rfl) ?_
          intro b37
          refine VL.c (.inl rfl) rfl (by decide) (yc_appendz 1 rfl rfl Try.underlying22 elt23_Steps rfl rfl (by repeat (first | exact UpdF.here | apply UpdF.there | apply UpdF.thereS)) (by first | exact Sees.root (by assumption) | exact Sees.own (by repeat (first | exact List.mem_cons_self | apply List.mem_cons_of_mem | apply List.mem_append_right))) rfl (by rw [fl_length, hyl]; simp) (by first | rfl | simp) (by first | rfl | exact fl_scal _) (by first | rfl | exact fl_scal _) (by omega) (by omega)) ?_
          rintro ⟨a38, c38⟩
          refine VL.r (.inl rfl) rfl (by decide) (yr_assign rfl rfl) ?_
          refine VL.nil ?_
          refine VE.block_normal ?_
          refine VE.then_wp ?_
          refine V.region ?_
          refine VL.r (.inl rfl) rfl (by decide) (yr_int rfl rfl rfl (.inl ⟨rfl, wrap_in (by omega)⟩)) ?_
          refine VL.r (.inl rfl) rfl (by decide) (yr_move rfl rfl) ?_
          refine VL.nil ?_
          refine VE.round (k + 1, ys ++ [stepOf unit (xs.getD k 0)], a38, c38) ?_ ?_ ?_ ?_ ?_
          · exact (.cons rfl (.cons rfl .nil))
          · exact (.cons rfl (.cons rfl (.cons rfl .nil)))
          · exact (fun w hw => by have h9 := hw.sub (List.sublist_cons_self _ _); rw [fl_snoc] at h9; simpa only [stepOf, *, if_true, if_false, Bool.false_eq_true] using h9)
          · exact ⟨by omega, by rw [hys]; exact map_take_succ (stepOf unit) (by omega)⟩
          · (try dsimp only); omega
        · skip
          refine V.skip ?_
          refine VE.then_wp ?_
          refine V.region ?_
          refine VL.r (.inl rfl) rfl (by decide) (yr_move rfl rfl) ?_
          refine VL.r (.inl rfl) rfl (by decide) (yr_move rfl rfl) ?_
          refine VL.r (.inl rfl) rfl (by decide) (yr_move rfl rfl) ?_
          refine VL.r (.inl rfl) rfl (by decide) (yr_float rfl (.inr (.inr (.inl rfl))) rfl rfl) ?_
          refine VL.new1 (.inl rfl) rfl (by decide) (yn_lit rfl Try.underlying22 elt23_Steps rfl (by decide) (.cons rfl .nil) (by simp) rfl rfl rfl) ?_
          intro b37
          refine VL.c (.inl rfl) rfl (by decide) (yc_appendz 1 rfl rfl Try.underlying22 elt23_Steps rfl rfl (by repeat (first | exact UpdF.here | apply UpdF.there | apply UpdF.thereS)) (by first | exact Sees.root (by assumption) | exact Sees.own (by repeat (first | exact List.mem_cons_self | apply List.mem_cons_of_mem | apply List.mem_append_right))) rfl (by rw [fl_length, hyl]; simp) (by first | rfl | simp) (by first | rfl | exact fl_scal _) (by first | rfl | exact fl_scal _) (by omega) (by omega)) ?_
          rintro ⟨a38, c38⟩
          refine VL.r (.inl rfl) rfl (by decide) (yr_assign rfl rfl) ?_
          refine VL.nil ?_
          refine VE.block_normal ?_
          refine VE.then_wp ?_
          refine V.region ?_
          refine VL.r (.inl rfl) rfl (by decide) (yr_int rfl rfl rfl (.inl ⟨rfl, wrap_in (by omega)⟩)) ?_
          refine VL.r (.inl rfl) rfl (by decide) (yr_move rfl rfl) ?_
          refine VL.nil ?_
          refine VE.round (k + 1, ys ++ [stepOf unit (xs.getD k 0)], a38, c38) ?_ ?_ ?_ ?_ ?_
          · exact (.cons rfl (.cons rfl .nil))
          · exact (.cons rfl (.cons rfl (.cons rfl .nil)))
          · exact (fun w hw => by have h9 := hw.sub (List.sublist_cons_self _ _); rw [fl_snoc] at h9; simpa only [stepOf, *, if_true, if_false, Bool.false_eq_true] using h9)
          · exact ⟨by omega, by rw [hys]; exact map_take_succ (stepOf unit) (by omega)⟩
          · (try dsimp only); omega
      · skip
        replace h4 := ic_lss' h4
        refine V.exit ?_
        refine VE.then_exit ?_
        refine VE.then_exit ?_
        refine VE.block_here ?_
        refine VE.then_wp ?_
        refine V.seq ?_
        refine V.region ?_
        refine VL.r (.inl rfl) rfl (by decide) (yr_move rfl rfl) ?_
        refine VL.r (.inl rfl) rfl (by decide) (yr_assign rfl rfl) ?_
        refine VL.r (.inl rfl) rfl (by decide) (yr_assign (u := .bool true) rfl rfl) ?_
        refine VL.nil ?_
        refine VE.then_wp ?_
        refine V.ret ?_
        refine ret2 rfl rfl rfl (by nofun) (by nofun) (fun w1 hw => ?_)
        have hs : stepsOk xs unit = true := by simp only [stepsOk, Bool.and_eq_true, decide_eq_true_eq]; exact ⟨by omega, by assumption⟩
        have hkx : k = xs.length := by omega
        subst hkx
        rw [List.take_length] at hys
        subst hys
        exact ⟨(a, c), by simp [stepsOf, hs], by simpa [stepsOf, hs] using hw.out1⟩

theorem c_specStepsOf {w : World} {a : Option Addr} {c : Nat} {xs : List Nat} {unit : Nat} (hA : Cl w a (fl xs)) (hn : xs.length ≤ 1048576) : New Try.prog 9 [.slice a xs.length c, .float .f32 unit] w (fun p : Option Addr × Nat => .tuple #[.slice p.1 (stepsOf xs unit).length p.2, .bool (stepsOk xs unit)]) (fun p => [⟨p.1, fl (stepsOf xs unit), p.2 * 1, 23⟩]) := by
  refine New.enter Try.func9 rfl Try.ntmps9 (Nat.le_of_ble_eq_true rfl) ?_
  refine V.seq ?_
  refine V.region ?_
  refine VL.r (.inl rfl) rfl (by decide) (yr_assign (u := .slice none 0 0) rfl rfl) ?_
  refine VL.r (.inl rfl) rfl (by decide) (yr_assign (u := .bool false) rfl rfl) ?_
  refine VL.nil ?_
  refine VE.then_wp ?_
  refine V.seq ?_
  refine V.seq ?_
  refine V.region ?_
  refine VL.r (.inl rfl) rfl (by decide) (yr_move rfl rfl) ?_
  refine VL.r (.inl rfl) rfl (by decide) (yr_len rfl Try.underlying22 rfl) ?_
  refine VL.r (.inl rfl) rfl (by decide) (yr_icmp rfl (.inr (.inr (.inr (.inr (.inl rfl))))) rfl rfl) ?_
  refine VL.r (.inl rfl) rfl (by decide) (yr_move rfl rfl) ?_
  refine VX.split 12 _ rfl (fun h1 => ?_) (fun h1 => ?_)
  · skip
    replace h1 := ic_gtr h1
    refine VL.no rfl rfl rfl rfl rfl (by decide) ?_
    refine VL.no rfl rfl rfl rfl rfl (by decide) ?_
    refine VL.no rfl rfl rfl rfl rfl (by decide) ?_
    refine VL.r (.inl rfl) rfl (by decide) (yr_pick_t (u := .bool true) rfl rfl rfl) ?_
    refine VL.nil ?_
    refine VE.then_wp ?_
    refine V.condT rfl ?_
    refine V.seq ?_
    refine V.region ?_
    refine VL.r (.inl rfl) rfl (by decide) (yr_assign (u := .slice none 0 0) rfl rfl) ?_
    refine VL.r (.inl rfl) rfl (by decide) (yr_assign (u := .bool false) rfl rfl) ?_
    refine VL.nil ?_
    refine VE.then_wp ?_
    refine V.ret ?_
    refine VE.then_ret ?_
    refine ret2 rfl rfl rfl (by nofun) (by nofun) (fun w1 hw => ?_)
    have hs : stepsOk xs unit = false := by simp only [stepsOk, Bool.and_eq_false_iff, decide_eq_false_iff_not]; first | (left; omega) | (right; assumption)
    exact ⟨(none, 0), by simp [stepsOf, hs], hw.below, by simp [stepsOf, hs, fl, Ent.at], List.pairwise_singleton _ _⟩
  · skip
    replace h1 := ic_gtr' h1
    refine VL.r (.inr ⟨_, _, _, rfl, rfl, rfl⟩) rfl (by decide) (yr_move rfl rfl) ?_
    refine VL.q (.inr ⟨_, _, _, rfl, rfl, rfl⟩) rfl (by decide) (yq_callf rfl known29_Steps (.cons rfl .nil) (fun w hw => c_l03Above _)) ?_
    refine VL.r (.inr ⟨_, _, _, rfl, rfl, rfl⟩) rfl (by decide) (yr_not rfl rfl) ?_
    refine VL.r (.inl rfl) rfl (by decide) (yr_pick_f rfl rfl rfl) ?_
    refine VL.nil ?_
    refine VE.then_wp ?_
    refine V.cond rfl (fun h3 => ?_) (fun h3 => ?_)
    · skip
      replace h3 := bnot_t h3
      refine V.seq ?_
      refine V.region ?_
      refine VL.r (.inl rfl) rfl (by decide) (yr_assign (u := .slice none 0 0) rfl rfl) ?_
      refine VL.r (.inl rfl) rfl (by decide) (yr_assign (u := .bool false) rfl rfl) ?_
      refine VL.nil ?_
      refine VE.then_wp ?_
      refine V.ret ?_
      refine VE.then_ret ?_
      refine ret2 rfl rfl rfl (by nofun) (by nofun) (fun w1 hw => ?_)
      have hs : stepsOk xs unit = false := by simp only [stepsOk, Bool.and_eq_false_iff, decide_eq_false_iff_not]; first | (left; omega) | (right; assumption)
      exact ⟨(none, 0), by simp [stepsOf, hs], hw.below, by simp [stepsOf, hs, fl, Ent.at], List.pairwise_singleton _ _⟩
    · skip
      replace h3 := bnot_f h3
      refine V.skip ?_
      refine VE.then_wp ?_
      refine V.seq ?_
      refine V.region ?_
      refine VL.new1 (.inl rfl) rfl (by decide) (yn_lit rfl Try.underlying22 elt23_Steps rfl (by decide) .nil (by simp) rfl rfl rfl) ?_
      intro b17
      refine VL.r (.inl rfl) rfl (by decide) (yr_assign rfl rfl) ?_
      refine VL.nil ?_
      refine VE.then_wp ?_
      refine V.seq ?_
      refine V.seq ?_
      refine V.region ?_
      refine VL.r (.inl rfl) rfl (by decide) (yr_move rfl rfl) ?_
      refine VL.r (.inl rfl) rfl (by decide) (yr_len rfl Try.underlying22 rfl) ?_
      refine VL.r (.inl rfl) rfl (by decide) (yr_move (u := .int .i64 0) rfl rfl) ?_
      refine VL.nil ?_
      refine VE.then_wp ?_
      refine V.block ?_
      refine V.loopc (G := Nat × (List Nat) × (Option Addr) × Nat) [(0, _), (1, _), (19, _)] (fun ⟨k, ys, a, c⟩ => k ≤ xs.length ∧ ys = (xs.take k).map (stepOf unit)) (fun ⟨k, ys, a, c⟩ => [⟨a, fl ys, c * 1, 23⟩]) (fun ⟨k, ys, a, c⟩ => [(6, .slice a k c), (20, .int .i64 (k : Int))]) (fun ⟨k, ys, a, c⟩ => xs.length - k) (0, [], some ⟨b17, 0, none⟩, 0) (.cons rfl (.cons rfl (.cons rfl .nil))) (.cons rfl (.cons rfl .nil)) ?_ ?_ ?_
      · exact (fun w hw => hw)
      · exact (by simp)
      rintro ⟨k, ys, a, c⟩ ⟨hk, hys⟩
      show V _ _ _ [⟨a, fl ys, c * 1, 23⟩] ([(6, .slice a k c), (20, .int .i64 (k : Int))] ++ [(0, _), (1, _), (19, _)]) _ _
      have hyl : ys.length = k := by rw [hys]; simp; omega
      refine V.seq ?_
      refine V.region ?_
      refine VL.r (.inl rfl) rfl (by decide) (yr_icmp rfl (.inr (.inr (.inl rfl))) rfl rfl) ?_
      refine VL.nil ?_
      refine VE.then_wp ?_
      refine V.seq ?_
      refine V.cond rfl (fun h4 => ?_) (fun h4 => ?_)
      · skip
        replace h4 := ic_lss h4
        refine V.skip ?_
        refine VE.then_wp ?_
        refine V.seq ?_
        refine V.block ?_
        refine V.seq ?_
        refine V.region ?_
        refine VL.r (.inl rfl) rfl (by decide) (yr_move rfl rfl) ?_
        refine VL.r (.inl rfl) rfl (by decide) (yr_assign rfl rfl) ?_
        refine VL.nil ?_
        refine VE.then_wp ?_
        refine V.seq ?_
        refine V.region ?_
        refine VL.r (.inl rfl) rfl (by decide) (yr_move rfl rfl) ?_
        refine VL.r (.inl rfl) rfl (by decide) (yr_move rfl rfl) ?_
        refine VL.q (.inl rfl) rfl (by decide) (yq_idx (k := k) rfl Try.underlying22 sz23_Steps rfl rfl (by first | exact Sees.root (by assumption) | exact Sees.own (by repeat (first | exact List.mem_cons_self | apply List.mem_cons_of_mem | apply List.mem_append_right))) (by first | rfl | omega | (push_cast; rfl) | (push_cast; omega)) (by first | exact fl_length _ | (rw [fl_length]; omega)) (by omega)) ?_
        refine VL.q (.inl rfl) rfl (by decide) (yq_loadF rfl fb23_Steps rfl (by first | exact Sees.root (by assumption) | exact Sees.own (by repeat (first | exact List.mem_cons_self | apply List.mem_cons_of_mem | apply List.mem_append_right))) (by omega)) ?_
        refine VL.r (.inl rfl) rfl (by decide) (yr_move rfl rfl) ?_
        refine VL.r (.inl rfl) rfl (by decide) (yr_float rfl (.inr (.inr (.inr rfl))) rfl rfl) ?_
        refine VL.r (.inl rfl) rfl (by decide) (yr_fconv rfl Try.underlying23 Try.underlying46 (by decide) rfl (fover_up _)) ?_
        refine VL.q (.inl rfl) rfl (by decide) (yq_ext rfl ext30_Steps (.cons rfl .nil) (fun vs w h => ext_round vs w h)) ?_
        refine VL.r (.inl rfl) rfl (by decide) (yr_fconv rfl Try.underlying46 Try.underlying23 (by decide) rfl (fover_round _)) ?_
        refine VL.r (.inl rfl) rfl (by decide) (yr_assign rfl rfl) ?_
        refine VL.nil ?_
        refine VE.then_wp ?_
        refine V.seq ?_
        refine V.seq ?_
        refine V.region ?_
        refine VL.r (.inl rfl) rfl (by decide) (yr_move rfl rfl) ?_
        refine VL.r (.inl rfl) rfl (by decide) (yr_fcmp (b := 0) rfl (.inl rfl) rfl rfl) ?_
        refine VL.nil ?_
        refine VE.then_wp ?_
        refine V.cond rfl (fun h5 => ?_) (fun h5 => ?_)
        · skip
          refine V.region ?_
          refine VL.r (.inl rfl) rfl (by decide) (yr_assign (u := .float .f32 0) rfl rfl) ?_
          refine VL.nil ?_
          refine VE.then_wp ?_
          refine V.region ?_
          refine VL.r (.inl rfl) rfl (by decide) (yr_move rfl rfl) ?_
          refine VL.r (.inl rfl) rfl (by decide) (yr_move rfl rfl) ?_
          refine VL.r (.inl rfl) rfl (by decide) (yr_move rfl rfl) ?_
          refine VL.r (.inl rfl) rfl (by decide) (yr_float rfl (.inr (.inr (.inl rfl))) rfl rfl) ?_
          refine VL.new1 (.inl rfl) rfl (by decide) (yn_lit rfl Try.underlying22 elt23_Steps rfl (by decide) (.cons rfl .nil) (by simp) rfl rfl rfl) ?_
          intro b38
          refine VL.c (.inl rfl) rfl (by decide) (yc_appendz 1 rfl rfl Try.underlying22 elt23_Steps rfl rfl (by repeat (first | exact UpdF.here | apply UpdF.there | apply UpdF.thereS)) (by first | exact Sees.root (by assumption) | exact Sees.own (by repeat (first | exact List.mem_cons_self | apply List.mem_cons_of_mem | apply List.mem_append_right))) rfl (by rw [fl_length, hyl]; simp) (by first | rfl | simp) (by first | rfl | exact fl_scal _) (by first | rfl | exact fl_scal _) (by omega) (by omega)) ?_
          rintro ⟨a39, c39⟩
          refine VL.r (.inl rfl) rfl (by decide) (yr_assign rfl rfl) ?_
          refine VL.nil ?_
          refine VE.block_normal ?_
          refine VE.then_wp ?_
          refine V.region ?_
          refine VL.r (.inl rfl) rfl (by decide) (yr_int rfl rfl rfl (.inl ⟨rfl, wrap_in (by omega)⟩)) ?_
          refine VL.r (.inl rfl) rfl (by decide) (yr_move rfl rfl) ?_
          refine VL.nil ?_
          refine VE.round (k + 1, ys ++ [stepOf unit (xs.getD k 0)], a39, c39) ?_ ?_ ?_ ?_ ?_
          · exact (.cons rfl (.cons rfl .nil))
          · exact (.cons rfl (.cons rfl (.cons rfl .nil)))
          · exact (fun w hw => by have h9 := hw.sub (List.sublist_cons_self _ _); rw [fl_snoc] at h9; simpa only [stepOf, *, if_true, if_false, Bool.false_eq_true] using h9)
          · exact ⟨by omega, by rw [hys]; exact map_take_succ (stepOf unit) (by omega)⟩
          · (try dsimp only); omega
        · skip
          refine V.skip ?_
          refine VE.then_wp ?_
          refine V.region ?_
          refine VL.r (.inl rfl) rfl (by decide) (yr_move rfl rfl) ?_
          refine VL.r (.inl rfl) rfl (by decide) (yr_move rfl rfl) ?_
          refine VL.r (.inl rfl) rfl (by decide) (yr_move rfl rfl) ?_
          refine VL.r (.inl rfl) rfl (by decide) (yr_float rfl (.inr (.inr (.inl rfl))) rfl rfl) ?_
          refine VL.new1 (.inl rfl) rfl (by decide) (yn_lit rfl Try.underlying22 elt23_Steps rfl (by decide) (.cons rfl .nil) (by simp) rfl rfl rfl) ?_
          intro b38
          refine VL.c (.inl rfl) rfl (by decide) (yc_appendz 1 rfl rfl Try.underlying22 elt23_Steps rfl rfl (by repeat (first | exact UpdF.here | apply UpdF.there | apply UpdF.thereS)) (by first | exact Sees.root (by assumption) | exact Sees.own (by repeat (first | exact List.mem_cons_self | apply List.mem_cons_of_mem | apply List.mem_append_right))) rfl (by rw [fl_length, hyl]; simp) (by first | rfl | simp) (by first | rfl | exact fl_scal _) (by first | rfl | exact fl_scal _) (by omega) (by omega)) ?_
          rintro ⟨a39, c39⟩
          refine VL.r (.inl rfl) rfl (by decide) (yr_assign rfl rfl) ?_
          refine VL.nil ?_
          refine VE.block_normal ?_
          refine VE.then_wp ?_
          refine V.region ?_
          refine VL.r (.inl rfl) rfl (by decide) (yr_int rfl rfl rfl (.inl ⟨rfl, wrap_in (by omega)⟩)) ?_
          refine VL.r (.inl rfl) rfl (by decide) (yr_move rfl rfl) ?_
          refine VL.nil ?_
          refine VE.round (k + 1, ys ++ [stepOf unit (xs.getD k 0)], a39, c39) ?_ ?_ ?_ ?_ ?_
          · exact (.cons rfl (.cons rfl .nil))
          · exact (.cons rfl (.cons rfl (.cons rfl .nil)))
          · exact (fun w hw => by have h9 := hw.sub (List.sublist_cons_self _ _); rw [fl_snoc] at h9; simpa only [stepOf, *, if_true, if_false, Bool.false_eq_true] using h9)
          · exact ⟨by omega, by rw [hys]; exact map_take_succ (stepOf unit) (by omega)⟩
          · (try dsimp only); omega
      · skip
        replace h4 := ic_lss' h4
        refine V.exit ?_
        refine VE.then_exit ?_
        refine VE.then_exit ?_
        refine VE.block_here ?_
        refine VE.then_wp ?_
        refine V.seq ?_
        refine V.region ?_
        refine VL.r (.inl rfl) rfl (by decide) (yr_move rfl rfl) ?_
        refine VL.r (.inl rfl) rfl (by decide) (yr_assign rfl rfl) ?_
        refine VL.r (.inl rfl) rfl (by decide) (yr_assign (u := .bool true) rfl rfl) ?_
        refine VL.nil ?_
        refine VE.then_wp ?_
        refine V.ret ?_
        refine ret2 rfl rfl rfl (by nofun) (by nofun) (fun w1 hw => ?_)
        have hs : stepsOk xs unit = true := by simp only [stepsOk, Bool.and_eq_true, decide_eq_true_eq]; exact ⟨by omega, by assumption⟩
        have hkx : k = xs.length := by omega
        subst hkx
        rw [List.take_length] at hys
        subst hys
        exact ⟨(a, c), by simp [stepsOf, hs], by simpa [stepsOf, hs] using hw.out1⟩

end Go.Proofs.Ytbdbjeaaoaohlaa
