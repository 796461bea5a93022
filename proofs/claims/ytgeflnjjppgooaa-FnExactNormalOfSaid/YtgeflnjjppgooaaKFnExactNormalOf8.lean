/- Own texts of this claim, merged: QWBlock, QWSquare, QWRidge, Nrm, QWNormal. -/
import Derived.KernelRfl
import Derived.Test.YtgeflnjjppgooaaKFnExactNormalOf7
namespace Go.Proofs.Ytgeflnjjppgooaa.Q
open Go.RowKit
set_option linter.unusedVariables false
set_option linter.unusedSimpArgs false
set_option maxRecDepth 20000
set_option maxHeartbeats 800000
attribute [local irreducible] wqList Wq

theorem sz22_Block : (Try.prog.info? 22).map (·.size) = some 1 := by kernel_rfl
theorem fb22_Block : flatB Try.prog 22 = true := by kernel_rfl
theorem sz23_Block : (Try.prog.info? 23).map (·.size) = some 1 := by kernel_rfl
theorem fb23_Block : flatB Try.prog 23 = true := by kernel_rfl
theorem elt26_Block : Elt Try.prog 26 [Value.float .f32 0] 4 := Elt.mk' (by kernel_rfl) (by decide)
theorem mixed_Block : Try.prog.follows .mixedOrders = true := by kernel_rfl
theorem sz26_Block : (Try.prog.info? 26).map (·.size) = some 1 := by kernel_rfl
theorem fb26_Block : flatB Try.prog 26 = true := by kernel_rfl
theorem known98_Block : Known Try.prog 98 := Known.mk' Try.func98 (by kernel_rfl)
theorem known97_Block : Known Try.prog 97 := Known.mk' Try.func97 (by kernel_rfl)
theorem c_l07Blocks [PhC] {w : World} {q : Option Addr} {a a1 a2 : Option Addr} {c c1 c2 : Nat} {xss : List (List Nat)} {ws gs : List Nat} (hQ : Cl w q [.slice a xss.length c, .slice a1 ws.length c1, .slice a2 gs.length c2]) (hxl : xss.length ≤ 1050000) : Pure Try.prog 70 [.pointer (some (adr q 0))] w (.int .i64 ((blocksN xss.length : Nat) : Int)) := by
  refine Pure.enter Try.func70 rfl Try.ntmps70 (Nat.le_of_ble_eq_true rfl) ?_
  refine V.seq ?_
  refine V.region ?_
  refine VL.r (.inl rfl) rfl (by decide) (yr_assign (u := .int .i64 0) rfl rfl) ?_
  refine VL.nil ?_
  refine VE.then_wp ?_
  refine V.seq ?_
  refine V.region ?_
  refine VL.r (.inl rfl) rfl (by decide) (yr_move rfl rfl) ?_
  refine VL.r (.inl rfl) rfl (by decide) (yr_nilCheck rfl rfl) ?_
  refine VL.r (.inl rfl) rfl (by decide) (yr_fieldAddr rfl Try.underlying30 rfl rfl sz22_Block (by decide) rfl) ?_
  refine VL.q (.inl rfl) rfl (by decide) (yq_load rfl fb22_Block rfl (by first | exact Sees.root (by assumption) | exact Sees.own (by repeat (first | exact List.mem_cons_self | exact List.mem_append_left _ (by assumption) | apply List.mem_cons_of_mem | apply List.mem_append_right)) | exact Sees.root (hR _ (by omega)) | exact Sees.own (RowsIn.mem (by repeat (first | exact RowsIn.here | exact RowsIn.last | apply RowsIn.there | apply RowsIn.thereS)) _ (by omega)) | exact Sees.own (WRowsIn.mem (by repeat (first | exact WRowsIn.here | exact WRowsIn.last | apply WRowsIn.there | apply WRowsIn.thereS)) _ (by omega))) rfl) ?_
  refine VL.r (.inl rfl) rfl (by decide) (yr_len rfl Try.underlying22 rfl) ?_
  refine VL.r (.inl rfl) rfl (by decide) (yr_int rfl rfl rfl (.inl ⟨rfl, wrap_in (by omega)⟩)) ?_
  refine VL.r (.inl rfl) rfl (by decide) (yr_int rfl rfl rfl (.inr (.inl ⟨rfl, wrap_in (by omega)⟩))) ?_
  refine VL.r (.inl rfl) rfl (by decide) (yr_quo rfl rfl rfl (by omega) (wrap_quo (by omega))) ?_
  refine VL.r (.inl rfl) rfl (by decide) (yr_assign rfl rfl) ?_
  refine VL.nil ?_
  refine VE.then_wp ?_
  refine V.ret ?_
  refine ret1 rfl rfl (fun w1 hw => ?_)
  exact ⟨congrArg (Value.int .i64) (by unfold blocksN; rw [show ((xss.length : Int) + 8 - 1) = ((xss.length + 7 : Nat) : Int) by omega]; exact (Int.ofNat_tdiv _ _).symm), hw.below⟩

theorem c_blocks [PhC] {w : World} {a a1 a2 : Option Addr} {c c1 c2 : Nat} {xss : List (List Nat)} {ws gs : List Nat} (hxl : xss.length ≤ 1050000) : Pure Try.prog 44 [.agg #[.slice a xss.length c, .slice a1 ws.length c1, .slice a2 gs.length c2]] w (.int .i64 ((blocksN xss.length : Nat) : Int)) := by
  refine Pure.enter Try.func44 rfl Try.ntmps44 (Nat.le_of_ble_eq_true rfl) ?_
  refine V.seq ?_
  refine V.region ?_
  refine VL.new1 (.inl rfl) rfl (by decide) (yn_box rfl rfl (.inr ⟨rfl, rfl⟩)) ?_
  intro b1
  refine VL.r (.inl rfl) rfl (by decide) (yr_assign (u := .int .i64 0) rfl rfl) ?_
  refine VL.nil ?_
  refine VE.then_wp ?_
  refine V.seq ?_
  refine V.region ?_
  refine VL.r (.inl rfl) rfl (by decide) (yr_fieldAddr rfl Try.underlying30 rfl rfl sz22_Block (by decide) rfl) ?_
  refine VL.q (.inl rfl) rfl (by decide) (yq_load rfl fb22_Block rfl (by first | exact Sees.root (by assumption) | exact Sees.own (by repeat (first | exact List.mem_cons_self | exact List.mem_append_left _ (by assumption) | apply List.mem_cons_of_mem | apply List.mem_append_right)) | exact Sees.root (hR _ (by omega)) | exact Sees.own (RowsIn.mem (by repeat (first | exact RowsIn.here | exact RowsIn.last | apply RowsIn.there | apply RowsIn.thereS)) _ (by omega)) | exact Sees.own (WRowsIn.mem (by repeat (first | exact WRowsIn.here | exact WRowsIn.last | apply WRowsIn.there | apply WRowsIn.thereS)) _ (by omega))) rfl) ?_
  refine VL.r (.inl rfl) rfl (by decide) (yr_len rfl Try.underlying22 rfl) ?_
  refine VL.r (.inl rfl) rfl (by decide) (yr_int rfl rfl rfl (.inl ⟨rfl, wrap_in (by omega)⟩)) ?_
  refine VL.r (.inl rfl) rfl (by decide) (yr_int rfl rfl rfl (.inr (.inl ⟨rfl, wrap_in (by omega)⟩))) ?_
  refine VL.r (.inl rfl) rfl (by decide) (yr_quo rfl rfl rfl (by omega) (wrap_quo (by omega))) ?_
  refine VL.r (.inl rfl) rfl (by decide) (yr_assign rfl rfl) ?_
  refine VL.nil ?_
  refine VE.then_wp ?_
  refine V.ret ?_
  refine ret1 rfl rfl (fun w1 hw => ?_)
  exact ⟨congrArg (Value.int .i64) (by unfold blocksN; rw [show ((xss.length : Int) + 8 - 1) = ((xss.length + 7 : Nat) : Int) by omega]; exact (Int.ofNat_tdiv _ _).symm), hw.below⟩

theorem c_l07Block [PhC] {w : World} {q : Option Addr} {a a1 a2 : Option Addr} {c c1 c2 : Nat} {f : Nat → Option Addr × Nat} {xss : List (List Nat)} {ws gs : List Nat} {fr cnt : Nat} {fi ci : Int} (hQ : Cl w q [.slice a xss.length c, .slice a1 ws.length c1, .slice a2 gs.length c2]) (hA : Cl w a (hd f xss)) (hR : Rws w f xss) (hW : Cl w a1 (fl ws)) (hG : Cl w a2 (fl gs)) (hsz : bulk xss + ws.length + gs.length ≤ 1050000) (hval : ValidP xss ws gs) (hfc : fr + cnt ≤ xss.length) (hfi : fi = (fr : Int)) (hci : ci = (cnt : Int)) : New Try.prog 97 [.pointer (some (adr q 0)), .int .i64 fi, .int .i64 ci] w (fun p : Nat × Nat => .tuple #[.slice (some ⟨p.1, 0, none⟩) ((xss.getD 0 []).length * (xss.getD 0 []).length) ((xss.getD 0 []).length * (xss.getD 0 []).length), .slice (some ⟨p.2, 0, none⟩) (xss.getD 0 []).length (xss.getD 0 []).length]) (fun p => [⟨some ⟨p.2, 0, none⟩, fl (blockB xss ws gs fr cnt (xss.getD 0 []).length), (xss.getD 0 []).length * 1, 26⟩, ⟨some ⟨p.1, 0, none⟩, fl (blockA xss gs fr cnt (xss.getD 0 []).length), ((xss.getD 0 []).length * (xss.getD 0 []).length) * 1, 26⟩]) := by
  subst hfi
  subst hci
  refine New.enter Try.func97 rfl Try.ntmps97 (Nat.le_of_ble_eq_true rfl) ?_
  have hr : ∀ i, i < xss.length → (xss.getD i []).length ≤ 1050000 := fun i hi => by have := bulk_row hi; omega
  have hxl : xss.length ≤ bulk xss := by unfold bulk; omega
  obtain ⟨v1, v2, v3, v4, v5, v6, v7, v8⟩ := hval
  have hN : ∀ i, i < xss.length → (xss.getD i []).length = (xss.getD 0 []).length := fun i hi => (v6 i hi).1
  have hnn : (xss.getD 0 []).length * (xss.getD 0 []).length ≤ 64 := Nat.mul_le_mul v8 v8
  have hix : ∀ {j k : Nat}, j < (xss.getD 0 []).length → k < (xss.getD 0 []).length → j * (xss.getD 0 []).length + k < (xss.getD 0 []).length * (xss.getD 0 []).length := idx_lt
  refine V.seq ?_
  refine V.region ?_
  refine VL.r (.inl rfl) rfl (by decide) (yr_assign (u := .slice none 0 0) rfl rfl) ?_
  refine VL.r (.inl rfl) rfl (by decide) (yr_assign (u := .slice none 0 0) rfl rfl) ?_
  refine VL.nil ?_
  refine VE.then_wp ?_
  refine V.seq ?_
  refine V.region ?_
  refine VL.r (.inl rfl) rfl (by decide) (yr_move rfl rfl) ?_
  refine VL.r (.inl rfl) rfl (by decide) (yr_nilCheck rfl rfl) ?_
  refine VL.r (.inl rfl) rfl (by decide) (yr_fieldAddr rfl Try.underlying30 rfl rfl sz22_Block (by decide) rfl) ?_
  refine VL.q (.inl rfl) rfl (by decide) (yq_load rfl fb22_Block rfl (by first | exact Sees.root (by assumption) | exact Sees.own (by repeat (first | exact List.mem_cons_self | exact List.mem_append_left _ (by assumption) | apply List.mem_cons_of_mem | apply List.mem_append_right)) | exact Sees.root (hR _ (by omega)) | exact Sees.own (RowsIn.mem (by repeat (first | exact RowsIn.here | exact RowsIn.last | apply RowsIn.there | apply RowsIn.thereS)) _ (by omega)) | exact Sees.own (WRowsIn.mem (by repeat (first | exact WRowsIn.here | exact WRowsIn.last | apply WRowsIn.there | apply WRowsIn.thereS)) _ (by omega))) rfl) ?_
  refine VL.q (.inl rfl) rfl (by decide) (yq_idx (k := 0) rfl Try.underlying22 sz23_Block rfl rfl (by first | exact Sees.root (by assumption) | exact Sees.own (by repeat (first | exact List.mem_cons_self | exact List.mem_append_left _ (by assumption) | apply List.mem_cons_of_mem | apply List.mem_append_right)) | exact Sees.root (hR _ (by omega)) | exact Sees.own (RowsIn.mem (by repeat (first | exact RowsIn.here | exact RowsIn.last | apply RowsIn.there | apply RowsIn.thereS)) _ (by omega)) | exact Sees.own (WRowsIn.mem (by repeat (first | exact WRowsIn.here | exact WRowsIn.last | apply WRowsIn.there | apply WRowsIn.thereS)) _ (by omega))) (by first | rfl | omega | (push_cast; rfl) | (push_cast; omega) | exact tmod_nat _ _) (by first | exact fl_length _ | exact hd_length _ _ | (rw [fl_length]; omega)) (by omega)) ?_
  refine VL.q (.inl rfl) rfl (by decide) (yq_loadH rfl fb23_Block rfl (by first | exact Sees.root (by assumption) | exact Sees.own (by repeat (first | exact List.mem_cons_self | exact List.mem_append_left _ (by assumption) | apply List.mem_cons_of_mem | apply List.mem_append_right)) | exact Sees.root (hR _ (by omega)) | exact Sees.own (RowsIn.mem (by repeat (first | exact RowsIn.here | exact RowsIn.last | apply RowsIn.there | apply RowsIn.thereS)) _ (by omega)) | exact Sees.own (WRowsIn.mem (by repeat (first | exact WRowsIn.here | exact WRowsIn.last | apply WRowsIn.there | apply WRowsIn.thereS)) _ (by omega))) (by omega)) ?_
  refine VL.r (.inl rfl) rfl (by decide) (yr_len rfl Try.underlying23 rfl) ?_
  refine VL.r (.inl rfl) rfl (by decide) (yr_assign rfl rfl) ?_
  refine VL.nil ?_
  refine VE.then_wp ?_
  refine V.seq ?_
  refine V.region ?_
  refine VL.r (.inl rfl) rfl (by decide) (yr_move rfl rfl) ?_
  refine VL.r (.inl rfl) rfl (by decide) (yr_move rfl rfl) ?_
  refine VL.r (.inl rfl) rfl (by decide) (yr_mulN (xss.getD 0 []).length (xss.getD 0 []).length rfl rfl rfl (by omega) (by omega) (Nat.le_trans (mul_small (by omega) (by omega)) (by decide))) ?_
  refine VL.new1 (.inl rfl) rfl (by decide) (yn_makeSlicez 1 rfl rfl Try.underlying23 elt26_Block rfl rfl rfl (by omega) (by omega)) ?_
  intro b26
  refine VL.r (.inl rfl) rfl (by decide) (yr_assign rfl rfl) ?_
  refine VL.nil ?_
  refine VE.then_wp ?_
  refine V.seq ?_
  refine V.region ?_
  refine VL.r (.inl rfl) rfl (by decide) (yr_move rfl rfl) ?_
  refine VL.new1 (.inl rfl) rfl (by decide) (yn_makeSlicez 1 rfl rfl Try.underlying23 elt26_Block rfl rfl rfl (by omega) (by omega)) ?_
  intro b28
  refine VL.r (.inl rfl) rfl (by decide) (yr_assign rfl rfl) ?_
  refine VL.nil ?_
  refine VE.then_wp ?_
  refine V.seq ?_
  refine V.seq ?_
  refine V.region ?_
  refine VL.r (.inl rfl) rfl (by decide) (yr_move rfl rfl) ?_
  refine VL.r (.inl rfl) rfl (by decide) (yr_assign rfl rfl) ?_
  refine VL.nil ?_
  refine VE.then_wp ?_
  refine V.block ?_
  refine V.loopc (G := Nat × (List Nat) × (List Nat)) [(0, _), (1, _), (2, _), (8, _), (9, _), (10, _)] (fun ⟨i, A, B⟩ => i ≤ cnt ∧ A.length = (xss.getD 0 []).length * (xss.getD 0 []).length ∧ B.length = (xss.getD 0 []).length ∧ (∀ j k, j < (xss.getD 0 []).length → k < (xss.getD 0 []).length → A.getD (j * (xss.getD 0 []).length + k) 0 = blkA xss gs fr j k i) ∧ ∀ j, j < (xss.getD 0 []).length → B.getD j 0 = blkB xss ws gs fr j i) (fun ⟨i, A, B⟩ => [⟨some ⟨b28, 0, none⟩, fl B, (xss.getD 0 []).length * 1, 26⟩, ⟨some ⟨b26, 0, none⟩, fl A, ((xss.getD 0 []).length * (xss.getD 0 []).length) * 1, 26⟩]) (fun ⟨i, A, B⟩ => [(11, .int .i64 ((fr + i : Nat) : Int))]) (fun ⟨i, A, B⟩ => cnt - i) (0, List.replicate ((xss.getD 0 []).length * (xss.getD 0 []).length) 0, List.replicate (xss.getD 0 []).length 0) (.cons rfl (.cons rfl (.cons rfl (.cons rfl (.cons rfl (.cons rfl .nil)))))) (.cons (congrArg (fun i => some (Value.int .i64 i)) (by omega)) .nil) ?_ ?_ ?_
  · exact (fun w hw => by rw [fl_zeros, fl_zeros] at hw; exact hw)
  · exact (by refine ⟨by omega, by simp, by simp, fun j k _ _ => ?_, fun j _ => ?_⟩ <;> rw [replicate_getD] <;> rfl)
  rintro ⟨i, A, B⟩ ⟨hi, hAl, hBl, hA2, hB2⟩
  show V _ _ _ [⟨some ⟨b28, 0, none⟩, fl B, (xss.getD 0 []).length * 1, 26⟩, ⟨some ⟨b26, 0, none⟩, fl A, ((xss.getD 0 []).length * (xss.getD 0 []).length) * 1, 26⟩] ([(11, .int .i64 ((fr + i : Nat) : Int))] ++ [(0, _), (1, _), (2, _), (8, _), (9, _), (10, _)]) _ _
  have hrl := fun h => hN (fr + i) h
  refine V.seq ?_
  refine V.seq ?_
  refine V.region ?_
  refine VL.r (.inl rfl) rfl (by decide) (yr_move rfl rfl) ?_
  refine VL.r (.inl rfl) rfl (by decide) (yr_move rfl rfl) ?_
  refine VL.r (.inl rfl) rfl (by decide) (yr_move rfl rfl) ?_
  refine VL.r (.inl rfl) rfl (by decide) (yr_int rfl rfl rfl (.inl ⟨rfl, wrap_in (by omega)⟩)) ?_
  refine VL.r (.inl rfl) rfl (by decide) (yr_icmp rfl (.inr (.inr (.inl rfl))) rfl rfl) ?_
  refine VL.nil ?_
  refine VE.then_wp ?_
  refine V.cond rfl (fun h1 => ?_) (fun h1 => ?_)
  · skip
    replace h1 := ic_lss h1
    refine V.skip ?_
    refine VE.then_wp ?_
    refine V.seq ?_
    refine V.block ?_
    refine V.seq ?_
    refine V.region ?_
    refine VL.r (.inl rfl) rfl (by decide) (yr_move rfl rfl) ?_
    refine VL.r (.inl rfl) rfl (by decide) (yr_nilCheck rfl rfl) ?_
    refine VL.r (.inl rfl) rfl (by decide) (yr_fieldAddr rfl Try.underlying30 rfl rfl sz22_Block (by decide) rfl) ?_
    refine VL.q (.inl rfl) rfl (by decide) (yq_load rfl fb22_Block rfl (by first | exact Sees.root (by assumption) | exact Sees.own (by repeat (first | exact List.mem_cons_self | exact List.mem_append_left _ (by assumption) | apply List.mem_cons_of_mem | apply List.mem_append_right)) | exact Sees.root (hR _ (by omega)) | exact Sees.own (RowsIn.mem (by repeat (first | exact RowsIn.here | exact RowsIn.last | apply RowsIn.there | apply RowsIn.thereS)) _ (by omega)) | exact Sees.own (WRowsIn.mem (by repeat (first | exact WRowsIn.here | exact WRowsIn.last | apply WRowsIn.there | apply WRowsIn.thereS)) _ (by omega))) rfl) ?_
    refine VL.r (.inl rfl) rfl (by decide) (yr_move rfl rfl) ?_
    refine VL.q (.inl rfl) rfl (by decide) (yq_idx (k := (fr + i)) rfl Try.underlying22 sz23_Block rfl rfl (by first | exact Sees.root (by assumption) | exact Sees.own (by repeat (first | exact List.mem_cons_self | exact List.mem_append_left _ (by assumption) | apply List.mem_cons_of_mem | apply List.mem_append_right)) | exact Sees.root (hR _ (by omega)) | exact Sees.own (RowsIn.mem (by repeat (first | exact RowsIn.here | exact RowsIn.last | apply RowsIn.there | apply RowsIn.thereS)) _ (by omega)) | exact Sees.own (WRowsIn.mem (by repeat (first | exact WRowsIn.here | exact WRowsIn.last | apply WRowsIn.there | apply WRowsIn.thereS)) _ (by omega))) (by first | rfl | omega | (push_cast; rfl) | (push_cast; omega) | exact tmod_nat _ _) (by first | exact fl_length _ | exact hd_length _ _ | (rw [fl_length]; omega)) (by omega)) ?_
    refine VL.q (.inl rfl) rfl (by decide) (yq_loadH rfl fb23_Block rfl (by first | exact Sees.root (by assumption) | exact Sees.own (by repeat (first | exact List.mem_cons_self | exact List.mem_append_left _ (by assumption) | apply List.mem_cons_of_mem | apply List.mem_append_right)) | exact Sees.root (hR _ (by omega)) | exact Sees.own (RowsIn.mem (by repeat (first | exact RowsIn.here | exact RowsIn.last | apply RowsIn.there | apply RowsIn.thereS)) _ (by omega)) | exact Sees.own (WRowsIn.mem (by repeat (first | exact WRowsIn.here | exact WRowsIn.last | apply WRowsIn.there | apply WRowsIn.thereS)) _ (by omega))) (by omega)) ?_
    refine VL.r (.inl rfl) rfl (by decide) (yr_assign rfl rfl) ?_
    refine VL.nil ?_
    refine VE.then_wp ?_
    refine V.seq ?_
    refine V.region ?_
    refine VL.r (.inl rfl) rfl (by decide) (yr_assign (u := .int .i64 0) rfl rfl) ?_
    refine VL.nil ?_
    refine VE.then_wp ?_
    refine V.block ?_
    refine V.loopc (G := Nat × (List Nat) × (List Nat)) [(0, _), (1, _), (2, _), (8, _), (9, _), (10, _), (11, _), (12, _)] (fun ⟨j, A1, B1⟩ => j ≤ (xss.getD 0 []).length ∧ A1.length = (xss.getD 0 []).length * (xss.getD 0 []).length ∧ B1.length = (xss.getD 0 []).length ∧ (∀ j1 k1, j1 < (xss.getD 0 []).length → k1 < (xss.getD 0 []).length → A1.getD (j1 * (xss.getD 0 []).length + k1) 0 = blkA xss gs fr j1 k1 (if j1 < j then i + 1 else i)) ∧ ∀ j1, j1 < (xss.getD 0 []).length → B1.getD j1 0 = blkB xss ws gs fr j1 (if j1 < j then i + 1 else i)) (fun ⟨j, A1, B1⟩ => [⟨some ⟨b28, 0, none⟩, fl B1, (xss.getD 0 []).length * 1, 26⟩, ⟨some ⟨b26, 0, none⟩, fl A1, ((xss.getD 0 []).length * (xss.getD 0 []).length) * 1, 26⟩]) (fun ⟨j, A1, B1⟩ => [(13, .int .i64 (j : Int))]) (fun ⟨j, A1, B1⟩ => (xss.getD 0 []).length - j) (0, A, B) (.cons rfl (.cons rfl (.cons rfl (.cons rfl (.cons rfl (.cons rfl (.cons rfl (.cons rfl .nil)))))))) (.cons rfl .nil) ?_ ?_ ?_
    · exact (fun w hw => hw)
    · exact (by exact ⟨by omega, hAl, hBl, fun j1 k1 h1 h2 => by rw [hA2 j1 k1 h1 h2, if_neg (by omega)], fun j1 h1 => by rw [hB2 j1 h1, if_neg (by omega)]⟩)
    rintro ⟨j, A1, B1⟩ ⟨hj, hA1l, hB1l, hA3, hB3⟩
    show V _ _ _ [⟨some ⟨b28, 0, none⟩, fl B1, (xss.getD 0 []).length * 1, 26⟩, ⟨some ⟨b26, 0, none⟩, fl A1, ((xss.getD 0 []).length * (xss.getD 0 []).length) * 1, 26⟩] ([(13, .int .i64 (j : Int))] ++ [(0, _), (1, _), (2, _), (8, _), (9, _), (10, _), (11, _), (12, _)]) _ _
    have hixj := fun (h : j < (xss.getD 0 []).length) (k : Nat) (hk : k < (xss.getD 0 []).length) => hix h hk
    refine V.seq ?_
    refine V.seq ?_
    refine V.region ?_
    refine VL.r (.inl rfl) rfl (by decide) (yr_move rfl rfl) ?_
    refine VL.r (.inl rfl) rfl (by decide) (yr_move rfl rfl) ?_
    refine VL.r (.inl rfl) rfl (by decide) (yr_icmp rfl (.inr (.inr (.inl rfl))) rfl rfl) ?_
    refine VL.nil ?_
    refine VE.then_wp ?_
    refine V.cond rfl (fun h2 => ?_) (fun h2 => ?_)
    · skip
      replace h2 := ic_lss h2
      refine V.skip ?_
      refine VE.then_wp ?_
      refine V.seq ?_
      refine V.block ?_
      refine V.seq ?_
      refine V.draw [(0, 0), (1, 0), (2, 0), (3, 0), (4, 0), (5, 0), (6, 0), (7, 0), (8, 0), (9, 0), (10, 0), (11, 0), (12, 0)] mixed_Block (by kernel_rfl) (by intro j o hj; simp at hj) ?_
      refine SW.r rfl (.inl rfl) rfl (by decide) (yr_move rfl rfl) ?_
      refine SW.r rfl (.inl rfl) rfl (by decide) (yr_nilCheck rfl rfl) ?_
      refine SW.r rfl (.inl rfl) rfl (by decide) (yr_fieldAddr rfl Try.underlying30 rfl rfl sz23_Block (by decide) rfl) ?_
      refine SW.q rfl (.inl rfl) rfl (by decide) (yq_load rfl fb23_Block rfl (by first | exact Sees.root (by assumption) | exact Sees.own (by repeat (first | exact List.mem_cons_self | exact List.mem_append_left _ (by assumption) | apply List.mem_cons_of_mem | apply List.mem_append_right)) | exact Sees.root (hR _ (by omega)) | exact Sees.own (RowsIn.mem (by repeat (first | exact RowsIn.here | exact RowsIn.last | apply RowsIn.there | apply RowsIn.thereS)) _ (by omega)) | exact Sees.own (WRowsIn.mem (by repeat (first | exact WRowsIn.here | exact WRowsIn.last | apply WRowsIn.there | apply WRowsIn.thereS)) _ (by omega))) rfl) ?_
      refine SW.r rfl (.inl rfl) rfl (by decide) (yr_move rfl rfl) ?_
      refine SW.q rfl (.inl rfl) rfl (by decide) (yq_idx (k := (fr + i)) rfl Try.underlying23 sz26_Block rfl rfl (by first | exact Sees.root (by assumption) | exact Sees.own (by repeat (first | exact List.mem_cons_self | exact List.mem_append_left _ (by assumption) | apply List.mem_cons_of_mem | apply List.mem_append_right)) | exact Sees.root (hR _ (by omega)) | exact Sees.own (RowsIn.mem (by repeat (first | exact RowsIn.here | exact RowsIn.last | apply RowsIn.there | apply RowsIn.thereS)) _ (by omega)) | exact Sees.own (WRowsIn.mem (by repeat (first | exact WRowsIn.here | exact WRowsIn.last | apply WRowsIn.there | apply WRowsIn.thereS)) _ (by omega))) (by first | rfl | omega | (push_cast; rfl) | (push_cast; omega) | exact tmod_nat _ _) (by first | exact fl_length _ | exact hd_length _ _ | (rw [fl_length]; omega)) (by omega)) ?_
      refine SW.q rfl (.inl rfl) rfl (by decide) (yq_loadF rfl fb26_Block rfl (by first | exact Sees.root (by assumption) | exact Sees.own (by repeat (first | exact List.mem_cons_self | exact List.mem_append_left _ (by assumption) | apply List.mem_cons_of_mem | apply List.mem_append_right)) | exact Sees.root (hR _ (by omega)) | exact Sees.own (RowsIn.mem (by repeat (first | exact RowsIn.here | exact RowsIn.last | apply RowsIn.there | apply RowsIn.thereS)) _ (by omega)) | exact Sees.own (WRowsIn.mem (by repeat (first | exact WRowsIn.here | exact WRowsIn.last | apply WRowsIn.there | apply WRowsIn.thereS)) _ (by omega))) (by omega)) ?_
      refine SW.r rfl (.inl rfl) rfl (by decide) (yr_move rfl rfl) ?_
      refine SW.r rfl (.inl rfl) rfl (by decide) (yr_move rfl rfl) ?_
      refine SW.q rfl (.inl rfl) rfl (by decide) (yq_idx (k := j) rfl Try.underlying23 sz26_Block rfl rfl (by first | exact Sees.root (by assumption) | exact Sees.own (by repeat (first | exact List.mem_cons_self | exact List.mem_append_left _ (by assumption) | apply List.mem_cons_of_mem | apply List.mem_append_right)) | exact Sees.root (hR _ (by omega)) | exact Sees.own (RowsIn.mem (by repeat (first | exact RowsIn.here | exact RowsIn.last | apply RowsIn.there | apply RowsIn.thereS)) _ (by omega)) | exact Sees.own (WRowsIn.mem (by repeat (first | exact WRowsIn.here | exact WRowsIn.last | apply WRowsIn.there | apply WRowsIn.thereS)) _ (by omega))) (by first | rfl | omega | (push_cast; rfl) | (push_cast; omega) | exact tmod_nat _ _) (by first | exact fl_length _ | exact hd_length _ _ | (rw [fl_length]; omega)) (by omega)) ?_
      refine SW.q rfl (.inl rfl) rfl (by decide) (yq_loadF rfl fb26_Block rfl (by first | exact Sees.root (by assumption) | exact Sees.own (by repeat (first | exact List.mem_cons_self | exact List.mem_append_left _ (by assumption) | apply List.mem_cons_of_mem | apply List.mem_append_right)) | exact Sees.root (hR _ (by omega)) | exact Sees.own (RowsIn.mem (by repeat (first | exact RowsIn.here | exact RowsIn.last | apply RowsIn.there | apply RowsIn.thereS)) _ (by omega)) | exact Sees.own (WRowsIn.mem (by repeat (first | exact WRowsIn.here | exact WRowsIn.last | apply WRowsIn.there | apply WRowsIn.thereS)) _ (by omega))) (by omega)) ?_
      refine SW.r rfl (.inl rfl) rfl (by decide) (yr_float rfl (.inr (.inr (.inl rfl))) rfl rfl) ?_
      refine SW.r rfl (.inl rfl) rfl (by decide) (yr_assign rfl rfl) ?_
      refine SW.done ?_
      refine VE.then_wp ?_
      refine V.seq ?_
      refine V.seq ?_
      refine V.region ?_
      refine VL.r (.inl rfl) rfl (by decide) (yr_assign (u := .int .i64 0) rfl rfl) ?_
      refine VL.nil ?_
      refine VE.then_wp ?_
      refine V.block ?_
      refine V.loopc (G := Nat × (List Nat)) [(0, _), (1, _), (2, _), (8, _), (9, _), (10, _), (11, _), (12, _), (13, _), (14, _)] (fun ⟨k, A2⟩ => k ≤ (xss.getD 0 []).length ∧ A2.length = (xss.getD 0 []).length * (xss.getD 0 []).length ∧ ∀ j1 k1, j1 < (xss.getD 0 []).length → k1 < (xss.getD 0 []).length → A2.getD (j1 * (xss.getD 0 []).length + k1) 0 = blkA xss gs fr j1 k1 (if j1 < j ∨ (j1 = j ∧ k1 < k) then i + 1 else i)) (fun ⟨k, A2⟩ => [⟨some ⟨b28, 0, none⟩, fl B1, (xss.getD 0 []).length * 1, 26⟩, ⟨some ⟨b26, 0, none⟩, fl A2, ((xss.getD 0 []).length * (xss.getD 0 []).length) * 1, 26⟩]) (fun ⟨k, A2⟩ => [(15, .int .i64 (k : Int))]) (fun ⟨k, A2⟩ => (xss.getD 0 []).length - k) (0, A1) (.cons rfl (.cons rfl (.cons rfl (.cons rfl (.cons rfl (.cons rfl (.cons rfl (.cons rfl (.cons rfl (.cons rfl .nil)))))))))) (.cons rfl .nil) ?_ ?_ ?_
      · exact (fun w hw => hw)
      · exact (by exact ⟨by omega, hA1l, up_or hA3⟩)
      rintro ⟨k, A2⟩ ⟨hk, hA2l, hA4⟩
      show V _ _ _ [⟨some ⟨b28, 0, none⟩, fl B1, (xss.getD 0 []).length * 1, 26⟩, ⟨some ⟨b26, 0, none⟩, fl A2, ((xss.getD 0 []).length * (xss.getD 0 []).length) * 1, 26⟩] ([(15, .int .i64 (k : Int))] ++ [(0, _), (1, _), (2, _), (8, _), (9, _), (10, _), (11, _), (12, _), (13, _), (14, _)]) _ _
      have hixk := fun (h : j < (xss.getD 0 []).length) (hk : k < (xss.getD 0 []).length) => hix h hk
      refine V.seq ?_
      refine V.seq ?_
      refine V.region ?_
      refine VL.r (.inl rfl) rfl (by decide) (yr_move rfl rfl) ?_
      refine VL.r (.inl rfl) rfl (by decide) (yr_move rfl rfl) ?_
      refine VL.r (.inl rfl) rfl (by decide) (yr_icmp rfl (.inr (.inr (.inl rfl))) rfl rfl) ?_
      refine VL.nil ?_
      refine VE.then_wp ?_
      refine V.cond rfl (fun h3 => ?_) (fun h3 => ?_)
      · skip
        replace h3 := ic_lss h3
        refine V.skip ?_
        refine VE.then_wp ?_
        refine V.seq ?_
        refine V.block ?_
        refine V.draw [(0, 0), (1, 0), (2, 0), (3, 0), (4, 0), (5, 0), (6, 0), (7, 0), (8, 0), (9, 0), (10, 0), (11, 0), (12, 0), (13, 0), (14, 0), (15, 0), (16, 3)] mixed_Block (by kernel_rfl) (by intro j o hj; simp at hj) ?_
        refine SW.r rfl (.inl rfl) rfl (by decide) (yr_move rfl rfl) ?_
        refine SW.r rfl (.inl rfl) rfl (by decide) (yr_move rfl rfl) ?_
        refine SW.r rfl (.inl rfl) rfl (by decide) (yr_move rfl rfl) ?_
        refine SW.r rfl (.inl rfl) rfl (by decide) (yr_mulN j (xss.getD 0 []).length rfl rfl rfl (by omega) (by omega) (Nat.le_trans (mul_small (by omega) (by omega)) (by decide))) ?_
        refine SW.r rfl (.inl rfl) rfl (by decide) (yr_move rfl rfl) ?_
        refine SW.r rfl (.inl rfl) rfl (by decide) (yr_int rfl rfl rfl (.inl ⟨rfl, wrap_in (by omega)⟩)) ?_
        refine SW.q rfl (.inl rfl) rfl (by decide) (yq_idx (k := ((j * (xss.getD 0 []).length) + k)) rfl Try.underlying23 sz26_Block rfl rfl (by first | exact Sees.root (by assumption) | exact Sees.own (by repeat (first | exact List.mem_cons_self | exact List.mem_append_left _ (by assumption) | apply List.mem_cons_of_mem | apply List.mem_append_right)) | exact Sees.root (hR _ (by omega)) | exact Sees.own (RowsIn.mem (by repeat (first | exact RowsIn.here | exact RowsIn.last | apply RowsIn.there | apply RowsIn.thereS)) _ (by omega)) | exact Sees.own (WRowsIn.mem (by repeat (first | exact WRowsIn.here | exact WRowsIn.last | apply WRowsIn.there | apply WRowsIn.thereS)) _ (by omega))) (by first | rfl | omega | (push_cast; rfl) | (push_cast; omega) | exact tmod_nat _ _) (by first | exact fl_length _ | exact hd_length _ _ | (rw [fl_length]; omega)) (by omega)) ?_
        refine SW.q rfl (.inl rfl) rfl (by decide) (yq_loadF rfl fb26_Block rfl (by first | exact Sees.root (by assumption) | exact Sees.own (by repeat (first | exact List.mem_cons_self | exact List.mem_append_left _ (by assumption) | apply List.mem_cons_of_mem | apply List.mem_append_right)) | exact Sees.root (hR _ (by omega)) | exact Sees.own (RowsIn.mem (by repeat (first | exact RowsIn.here | exact RowsIn.last | apply RowsIn.there | apply RowsIn.thereS)) _ (by omega)) | exact Sees.own (WRowsIn.mem (by repeat (first | exact WRowsIn.here | exact WRowsIn.last | apply WRowsIn.there | apply WRowsIn.thereS)) _ (by omega))) (by omega)) ?_
        refine SW.r rfl (.inl rfl) rfl (by decide) (yr_move rfl rfl) ?_
        refine SW.r rfl (.inl rfl) rfl (by decide) (yr_move rfl rfl) ?_
        refine SW.r rfl (.inl rfl) rfl (by decide) (yr_move rfl rfl) ?_
        refine SW.q rfl (.inl rfl) rfl (by decide) (yq_idx (k := k) rfl Try.underlying23 sz26_Block rfl rfl (by first | exact Sees.root (by assumption) | exact Sees.own (by repeat (first | exact List.mem_cons_self | exact List.mem_append_left _ (by assumption) | apply List.mem_cons_of_mem | apply List.mem_append_right)) | exact Sees.root (hR _ (by omega)) | exact Sees.own (RowsIn.mem (by repeat (first | exact RowsIn.here | exact RowsIn.last | apply RowsIn.there | apply RowsIn.thereS)) _ (by omega)) | exact Sees.own (WRowsIn.mem (by repeat (first | exact WRowsIn.here | exact WRowsIn.last | apply WRowsIn.there | apply WRowsIn.thereS)) _ (by omega))) (by first | rfl | omega | (push_cast; rfl) | (push_cast; omega) | exact tmod_nat _ _) (by first | exact fl_length _ | exact hd_length _ _ | (rw [fl_length]; omega)) (by omega)) ?_
        refine SW.q rfl (.inl rfl) rfl (by decide) (yq_loadF rfl fb26_Block rfl (by first | exact Sees.root (by assumption) | exact Sees.own (by repeat (first | exact List.mem_cons_self | exact List.mem_append_left _ (by assumption) | apply List.mem_cons_of_mem | apply List.mem_append_right)) | exact Sees.root (hR _ (by omega)) | exact Sees.own (RowsIn.mem (by repeat (first | exact RowsIn.here | exact RowsIn.last | apply RowsIn.there | apply RowsIn.thereS)) _ (by omega)) | exact Sees.own (WRowsIn.mem (by repeat (first | exact WRowsIn.here | exact WRowsIn.last | apply WRowsIn.there | apply WRowsIn.thereS)) _ (by omega))) (by omega)) ?_
        refine SW.r rfl (.inl rfl) rfl (by decide) (yr_float rfl (.inr (.inr (.inl rfl))) rfl rfl) ?_
        refine SW.r rfl (.inl rfl) rfl (by decide) (yr_float rfl (.inl rfl) rfl rfl) ?_
        refine SW.q rfl (.inl rfl) rfl (by decide) (yq_idx (k := ((j * (xss.getD 0 []).length) + k)) rfl Try.underlying23 sz26_Block rfl rfl (by first | exact Sees.root (by assumption) | exact Sees.own (by repeat (first | exact List.mem_cons_self | exact List.mem_append_left _ (by assumption) | apply List.mem_cons_of_mem | apply List.mem_append_right)) | exact Sees.root (hR _ (by omega)) | exact Sees.own (RowsIn.mem (by repeat (first | exact RowsIn.here | exact RowsIn.last | apply RowsIn.there | apply RowsIn.thereS)) _ (by omega)) | exact Sees.own (WRowsIn.mem (by repeat (first | exact WRowsIn.here | exact WRowsIn.last | apply WRowsIn.there | apply WRowsIn.thereS)) _ (by omega))) (by first | rfl | omega | (push_cast; rfl) | (push_cast; omega) | exact tmod_nat _ _) (by first | exact fl_length _ | exact hd_length _ _ | (rw [fl_length]; omega)) (by omega)) ?_
        refine SW.s rfl (.inl rfl) rfl (yc_store rfl sz26_Block rfl rfl (by repeat (first | exact UpdF.here | apply UpdF.there | apply UpdF.thereS)) (.inl ⟨rfl, rfl⟩) rfl (by rw [fl_length]; omega) (by decide) (fl_set _ _ _)) ?_
        rintro ⟨⟩
        refine SW.done ?_
        refine VE.block_normal ?_
        refine VE.then_wp ?_
        refine V.region ?_
        refine VL.r (.inl rfl) rfl (by decide) (yr_move rfl rfl) ?_
        refine VL.r (.inl rfl) rfl (by decide) (yr_int rfl rfl rfl (.inl ⟨rfl, wrap_in (by omega)⟩)) ?_
        refine VL.r (.inl rfl) rfl (by decide) (yr_assign rfl rfl) ?_
        refine VL.nil ?_
        refine VE.round (k + 1, A2.set (j * (xss.getD 0 []).length + k) (fop .add .f32 (A2.getD (j * (xss.getD 0 []).length + k) 0) (fop .mul .f32 (fop .mul .f32 (gs.getD (fr + i) 0) ((xss.getD (fr + i) []).getD j 0)) ((xss.getD (fr + i) []).getD k 0)))) ?_ ?_ ?_ ?_ ?_
        · exact (.cons rfl .nil)
        · exact (.cons rfl (.cons rfl (.cons rfl (.cons rfl (.cons rfl (.cons rfl (.cons rfl (.cons rfl (.cons rfl (.cons rfl .nil))))))))))
        · exact (fun w hw => hw)
        · exact ⟨by omega, by simp [hA2l], blkA_step hA2l (by omega) (by omega) hA4⟩
        · (try dsimp only); omega
      · skip
        replace h3 := ic_lss' h3
        refine V.exit ?_
        refine VE.then_exit ?_
        refine VE.then_exit ?_
        refine VE.block_here ?_
        refine VE.then_wp ?_
        refine V.draw [(0, 0), (1, 0), (2, 0), (3, 0), (4, 0), (5, 0), (6, 0), (7, 0), (8, 0), (9, 0), (10, 0), (11, 0), (12, 0), (13, 0), (14, 0), (15, 3)] mixed_Block (by kernel_rfl) (by intro j o hj; simp at hj) ?_
        refine SW.r rfl (.inl rfl) rfl (by decide) (yr_move rfl rfl) ?_
        refine SW.r rfl (.inl rfl) rfl (by decide) (yr_move rfl rfl) ?_
        refine SW.q rfl (.inl rfl) rfl (by decide) (yq_idx (k := j) rfl Try.underlying23 sz26_Block rfl rfl (by first | exact Sees.root (by assumption) | exact Sees.own (by repeat (first | exact List.mem_cons_self | exact List.mem_append_left _ (by assumption) | apply List.mem_cons_of_mem | apply List.mem_append_right)) | exact Sees.root (hR _ (by omega)) | exact Sees.own (RowsIn.mem (by repeat (first | exact RowsIn.here | exact RowsIn.last | apply RowsIn.there | apply RowsIn.thereS)) _ (by omega)) | exact Sees.own (WRowsIn.mem (by repeat (first | exact WRowsIn.here | exact WRowsIn.last | apply WRowsIn.there | apply WRowsIn.thereS)) _ (by omega))) (by first | rfl | omega | (push_cast; rfl) | (push_cast; omega) | exact tmod_nat _ _) (by first | exact fl_length _ | exact hd_length _ _ | (rw [fl_length]; omega)) (by omega)) ?_
        refine SW.q rfl (.inl rfl) rfl (by decide) (yq_loadF rfl fb26_Block rfl (by first | exact Sees.root (by assumption) | exact Sees.own (by repeat (first | exact List.mem_cons_self | exact List.mem_append_left _ (by assumption) | apply List.mem_cons_of_mem | apply List.mem_append_right)) | exact Sees.root (hR _ (by omega)) | exact Sees.own (RowsIn.mem (by repeat (first | exact RowsIn.here | exact RowsIn.last | apply RowsIn.there | apply RowsIn.thereS)) _ (by omega)) | exact Sees.own (WRowsIn.mem (by repeat (first | exact WRowsIn.here | exact WRowsIn.last | apply WRowsIn.there | apply WRowsIn.thereS)) _ (by omega))) (by omega)) ?_
        refine SW.r rfl (.inl rfl) rfl (by decide) (yr_move rfl rfl) ?_
        refine SW.r rfl (.inl rfl) rfl (by decide) (yr_move rfl rfl) ?_
        refine SW.r rfl (.inl rfl) rfl (by decide) (yr_nilCheck rfl rfl) ?_
        refine SW.r rfl (.inl rfl) rfl (by decide) (yr_fieldAddr rfl Try.underlying30 rfl rfl sz23_Block (by decide) rfl) ?_
        refine SW.q rfl (.inl rfl) rfl (by decide) (yq_load rfl fb23_Block rfl (by first | exact Sees.root (by assumption) | exact Sees.own (by repeat (first | exact List.mem_cons_self | exact List.mem_append_left _ (by assumption) | apply List.mem_cons_of_mem | apply List.mem_append_right)) | exact Sees.root (hR _ (by omega)) | exact Sees.own (RowsIn.mem (by repeat (first | exact RowsIn.here | exact RowsIn.last | apply RowsIn.there | apply RowsIn.thereS)) _ (by omega)) | exact Sees.own (WRowsIn.mem (by repeat (first | exact WRowsIn.here | exact WRowsIn.last | apply WRowsIn.there | apply WRowsIn.thereS)) _ (by omega))) rfl) ?_
        refine SW.r rfl (.inl rfl) rfl (by decide) (yr_move rfl rfl) ?_
        refine SW.q rfl (.inl rfl) rfl (by decide) (yq_idx (k := (fr + i)) rfl Try.underlying23 sz26_Block rfl rfl (by first | exact Sees.root (by assumption) | exact Sees.own (by repeat (first | exact List.mem_cons_self | exact List.mem_append_left _ (by assumption) | apply List.mem_cons_of_mem | apply List.mem_append_right)) | exact Sees.root (hR _ (by omega)) | exact Sees.own (RowsIn.mem (by repeat (first | exact RowsIn.here | exact RowsIn.last | apply RowsIn.there | apply RowsIn.thereS)) _ (by omega)) | exact Sees.own (WRowsIn.mem (by repeat (first | exact WRowsIn.here | exact WRowsIn.last | apply WRowsIn.there | apply WRowsIn.thereS)) _ (by omega))) (by first | rfl | omega | (push_cast; rfl) | (push_cast; omega) | exact tmod_nat _ _) (by first | exact fl_length _ | exact hd_length _ _ | (rw [fl_length]; omega)) (by omega)) ?_
        refine SW.q rfl (.inl rfl) rfl (by decide) (yq_loadF rfl fb26_Block rfl (by first | exact Sees.root (by assumption) | exact Sees.own (by repeat (first | exact List.mem_cons_self | exact List.mem_append_left _ (by assumption) | apply List.mem_cons_of_mem | apply List.mem_append_right)) | exact Sees.root (hR _ (by omega)) | exact Sees.own (RowsIn.mem (by repeat (first | exact RowsIn.here | exact RowsIn.last | apply RowsIn.there | apply RowsIn.thereS)) _ (by omega)) | exact Sees.own (WRowsIn.mem (by repeat (first | exact WRowsIn.here | exact WRowsIn.last | apply WRowsIn.there | apply WRowsIn.thereS)) _ (by omega))) (by omega)) ?_
        refine SW.r rfl (.inl rfl) rfl (by decide) (yr_float rfl (.inr (.inr (.inl rfl))) rfl rfl) ?_
        refine SW.r rfl (.inl rfl) rfl (by decide) (yr_float rfl (.inl rfl) rfl rfl) ?_
        refine SW.q rfl (.inl rfl) rfl (by decide) (yq_idx (k := j) rfl Try.underlying23 sz26_Block rfl rfl (by first | exact Sees.root (by assumption) | exact Sees.own (by repeat (first | exact List.mem_cons_self | exact List.mem_append_left _ (by assumption) | apply List.mem_cons_of_mem | apply List.mem_append_right)) | exact Sees.root (hR _ (by omega)) | exact Sees.own (RowsIn.mem (by repeat (first | exact RowsIn.here | exact RowsIn.last | apply RowsIn.there | apply RowsIn.thereS)) _ (by omega)) | exact Sees.own (WRowsIn.mem (by repeat (first | exact WRowsIn.here | exact WRowsIn.last | apply WRowsIn.there | apply WRowsIn.thereS)) _ (by omega))) (by first | rfl | omega | (push_cast; rfl) | (push_cast; omega) | exact tmod_nat _ _) (by first | exact fl_length _ | exact hd_length _ _ | (rw [fl_length]; omega)) (by omega)) ?_
        refine SW.s rfl (.inl rfl) rfl (yc_store rfl sz26_Block rfl rfl (by repeat (first | exact UpdF.here | apply UpdF.there | apply UpdF.thereS)) (.inl ⟨rfl, rfl⟩) rfl (by rw [fl_length]; omega) (by decide) (fl_set _ _ _)) ?_
        rintro ⟨⟩
        refine SW.done ?_
        refine VE.block_normal ?_
        refine VE.then_wp ?_
        refine V.region ?_
        refine VL.r (.inl rfl) rfl (by decide) (yr_move rfl rfl) ?_
        refine VL.r (.inl rfl) rfl (by decide) (yr_int rfl rfl rfl (.inl ⟨rfl, wrap_in (by omega)⟩)) ?_
        refine VL.r (.inl rfl) rfl (by decide) (yr_assign rfl rfl) ?_
        refine VL.nil ?_
        refine VE.round (j + 1, A2, B1.set j (fop .add .f32 (B1.getD j 0) (fop .mul .f32 (fop .mul .f32 (gs.getD (fr + i) 0) ((xss.getD (fr + i) []).getD j 0)) (ws.getD (fr + i) 0)))) ?_ ?_ ?_ ?_ ?_
        · exact (.cons rfl .nil)
        · exact (.cons rfl (.cons rfl (.cons rfl (.cons rfl (.cons rfl (.cons rfl (.cons rfl (.cons rfl .nil))))))))
        · exact (fun w hw => hw)
        · obtain rfl : k = (xss.getD 0 []).length := by omega
          exact ⟨by omega, hA2l, by simp [hB1l], or_up hA4, blkB_step hB1l (by omega) hB3⟩
        · (try dsimp only); omega
    · skip
      replace h2 := ic_lss' h2
      refine V.exit ?_
      refine VE.then_exit ?_
      refine VE.then_exit ?_
      refine VE.block_here ?_
      refine VE.block_normal ?_
      refine VE.then_wp ?_
      refine V.region ?_
      refine VL.r (.inl rfl) rfl (by decide) (yr_move rfl rfl) ?_
      refine VL.r (.inl rfl) rfl (by decide) (yr_int rfl rfl rfl (.inl ⟨rfl, wrap_in (by omega)⟩)) ?_
      refine VL.r (.inl rfl) rfl (by decide) (yr_assign rfl rfl) ?_
      refine VL.nil ?_
      refine VE.round (i + 1, A1, B1) ?_ ?_ ?_ ?_ ?_
      · exact (.cons (congrArg (fun i => some (Value.int .i64 i)) (by omega)) .nil)
      · exact (.cons rfl (.cons rfl (.cons rfl (.cons rfl (.cons rfl (.cons rfl .nil))))))
      · exact (fun w hw => hw)
      · obtain rfl : j = (xss.getD 0 []).length := by omega
        exact ⟨by omega, hA1l, hB1l, fun j1 k1 h1 h2 => by rw [hA3 j1 k1 h1 h2, if_pos h1], fun j1 h1 => by rw [hB3 j1 h1, if_pos h1]⟩
      · (try dsimp only); omega
  · skip
    replace h1 := ic_lss' h1
    refine V.exit ?_
    refine VE.then_exit ?_
    refine VE.then_exit ?_
    refine VE.block_here ?_
    refine VE.then_wp ?_
    refine V.seq ?_
    refine V.region ?_
    refine VL.r (.inl rfl) rfl (by decide) (yr_move rfl rfl) ?_
    refine VL.r (.inl rfl) rfl (by decide) (yr_move rfl rfl) ?_
    refine VL.r (.inl rfl) rfl (by decide) (yr_assign rfl rfl) ?_
    refine VL.r (.inl rfl) rfl (by decide) (yr_assign rfl rfl) ?_
    refine VL.nil ?_
    refine VE.then_wp ?_
    refine V.ret ?_
    refine ret2 rfl rfl rfl (by nofun) (by nofun) (fun w1 hw => ?_)
    obtain rfl : i = cnt := by omega
    have hAe := ext_square hAl hA2
    have hBe : B = blockB xss ws gs fr i (xss.getD 0 []).length := ext_getD (by rw [hBl, blockB_length]) fun t ht => by rw [hB2 t (by omega), blockB, getD_range _ _ (by omega)]
    rw [hAe, hBe] at hw
    exact ⟨(b26, b28), rfl, hw.outs (((List.nil_sublist _).cons_cons _).cons_cons _)⟩

theorem c_block [PhC] {w : World} {a a1 a2 : Option Addr} {c c1 c2 : Nat} {f : Nat → Option Addr × Nat} {xss : List (List Nat)} {ws gs : List Nat} {blk fr cnt : Nat} {bi : Int} (hA : Cl w a (hd f xss)) (hR : Rws w f xss) (hW : Cl w a1 (fl ws)) (hG : Cl w a2 (fl gs)) (hsz : bulk xss + ws.length + gs.length ≤ 1050000) (hval : ValidP xss ws gs) (hbi : bi = (blk : Int)) (hfr : fr = blk * 8) (hcnt : cnt = min 8 (xss.length - blk * 8)) (hle : blk * 8 ≤ xss.length) : New Try.prog 47 [.agg #[.slice a xss.length c, .slice a1 ws.length c1, .slice a2 gs.length c2], .int .i64 bi] w (fun p : Nat × Nat => .tuple #[.slice (some ⟨p.1, 0, none⟩) ((xss.getD 0 []).length * (xss.getD 0 []).length) ((xss.getD 0 []).length * (xss.getD 0 []).length), .slice (some ⟨p.2, 0, none⟩) (xss.getD 0 []).length (xss.getD 0 []).length]) (fun p => [⟨some ⟨p.2, 0, none⟩, fl (blockB xss ws gs fr cnt (xss.getD 0 []).length), (xss.getD 0 []).length * 1, 26⟩, ⟨some ⟨p.1, 0, none⟩, fl (blockA xss gs fr cnt (xss.getD 0 []).length), ((xss.getD 0 []).length * (xss.getD 0 []).length) * 1, 26⟩]) := by
  subst hbi
  refine New.enter Try.func47 rfl Try.ntmps47 (Nat.le_of_ble_eq_true rfl) ?_
  have hr : ∀ i, i < xss.length → (xss.getD i []).length ≤ 1050000 := fun i hi => by have := bulk_row hi; omega
  have hxl : xss.length ≤ bulk xss := by unfold bulk; omega
  obtain ⟨v1, v2, v3, v4, v5, v6, v7, v8⟩ := hval
  have hN : ∀ i, i < xss.length → (xss.getD i []).length = (xss.getD 0 []).length := fun i hi => (v6 i hi).1
  have hnn : (xss.getD 0 []).length * (xss.getD 0 []).length ≤ 64 := Nat.mul_le_mul v8 v8
  have hix : ∀ {j k : Nat}, j < (xss.getD 0 []).length → k < (xss.getD 0 []).length → j * (xss.getD 0 []).length + k < (xss.getD 0 []).length * (xss.getD 0 []).length := idx_lt
  refine V.seq ?_
  refine V.region ?_
  refine VL.new1 (.inl rfl) rfl (by decide) (yn_box rfl rfl (.inr ⟨rfl, rfl⟩)) ?_
  intro b2
  refine VL.r (.inl rfl) rfl (by decide) (yr_assign (u := .slice none 0 0) rfl rfl) ?_
  refine VL.r (.inl rfl) rfl (by decide) (yr_assign (u := .slice none 0 0) rfl rfl) ?_
  refine VL.nil ?_
  refine VE.then_wp ?_
  refine V.seq ?_
  refine V.region ?_
  refine VL.r (.inl rfl) rfl (by decide) (yr_fieldAddr rfl Try.underlying30 rfl rfl sz22_Block (by decide) rfl) ?_
  refine VL.q (.inl rfl) rfl (by decide) (yq_load rfl fb22_Block rfl (by first | exact Sees.root (by assumption) | exact Sees.own (by repeat (first | exact List.mem_cons_self | exact List.mem_append_left _ (by assumption) | apply List.mem_cons_of_mem | apply List.mem_append_right)) | exact Sees.root (hR _ (by omega)) | exact Sees.own (RowsIn.mem (by repeat (first | exact RowsIn.here | exact RowsIn.last | apply RowsIn.there | apply RowsIn.thereS)) _ (by omega)) | exact Sees.own (WRowsIn.mem (by repeat (first | exact WRowsIn.here | exact WRowsIn.last | apply WRowsIn.there | apply WRowsIn.thereS)) _ (by omega))) rfl) ?_
  refine VL.q (.inl rfl) rfl (by decide) (yq_idx (k := 0) rfl Try.underlying22 sz23_Block rfl rfl (by first | exact Sees.root (by assumption) | exact Sees.own (by repeat (first | exact List.mem_cons_self | exact List.mem_append_left _ (by assumption) | apply List.mem_cons_of_mem | apply List.mem_append_right)) | exact Sees.root (hR _ (by omega)) | exact Sees.own (RowsIn.mem (by repeat (first | exact RowsIn.here | exact RowsIn.last | apply RowsIn.there | apply RowsIn.thereS)) _ (by omega)) | exact Sees.own (WRowsIn.mem (by repeat (first | exact WRowsIn.here | exact WRowsIn.last | apply WRowsIn.there | apply WRowsIn.thereS)) _ (by omega))) (by first | rfl | omega | (push_cast; rfl) | (push_cast; omega) | exact tmod_nat _ _) (by first | exact fl_length _ | exact hd_length _ _ | (rw [fl_length]; omega)) (by omega)) ?_
  refine VL.q (.inl rfl) rfl (by decide) (yq_loadH rfl fb23_Block rfl (by first | exact Sees.root (by assumption) | exact Sees.own (by repeat (first | exact List.mem_cons_self | exact List.mem_append_left _ (by assumption) | apply List.mem_cons_of_mem | apply List.mem_append_right)) | exact Sees.root (hR _ (by omega)) | exact Sees.own (RowsIn.mem (by repeat (first | exact RowsIn.here | exact RowsIn.last | apply RowsIn.there | apply RowsIn.thereS)) _ (by omega)) | exact Sees.own (WRowsIn.mem (by repeat (first | exact WRowsIn.here | exact WRowsIn.last | apply WRowsIn.there | apply WRowsIn.thereS)) _ (by omega))) (by omega)) ?_
  refine VL.r (.inl rfl) rfl (by decide) (yr_len rfl Try.underlying23 rfl) ?_
  refine VL.r (.inl rfl) rfl (by decide) (yr_assign rfl rfl) ?_
  refine VL.nil ?_
  refine VE.then_wp ?_
  refine V.seq ?_
  refine Dr.V.drawR [(0, 5), (1, 5), (2, 5), (4, 5), (3, 2), (6, 5), (5, 2), (7, 5)] [(3, ((fun b => .slice (some ⟨b, 0, none⟩) ((xss.getD 0 []).length * (xss.getD 0 []).length) ((xss.getD 0 []).length * (xss.getD 0 []).length)), (fun b => ⟨some ⟨b, 0, none⟩, cycle [Value.float .f32 0] ((xss.getD 0 []).length * (xss.getD 0 []).length), ((xss.getD 0 []).length * (xss.getD 0 []).length) * 1, 26⟩))), (5, ((fun b => .slice (some ⟨b, 0, none⟩) (xss.getD 0 []).length (xss.getD 0 []).length), (fun b => ⟨some ⟨b, 0, none⟩, cycle [Value.float .f32 0] (xss.getD 0 []).length, (xss.getD 0 []).length * 1, 26⟩)))] [] _ mixed_Block (by kernel_rfl) (fun w hw => hw) ?_
  refine Dr.SW.r rfl (.inl rfl) rfl (by decide) (yr_move rfl rfl) ?_
  refine Dr.SW.r rfl (.inl rfl) rfl (by decide) (yr_move rfl rfl) ?_
  refine Dr.SW.r rfl (.inl rfl) rfl (by decide) (yr_mulN (xss.getD 0 []).length (xss.getD 0 []).length rfl rfl rfl (by omega) (by omega) (Nat.le_trans (mul_small (by omega) (by omega)) (by decide))) ?_
  refine Dr.SW.r rfl (.inl rfl) rfl (by decide) (yr_move rfl rfl) ?_
  refine Dr.SW.a rfl rfl rfl (by decide) rfl (fun w0 => (yn_makeSlicez 1 rfl rfl Try.underlying23 elt26_Block rfl rfl rfl (by omega) (by omega))) ?_
  intro b24
  refine Dr.SW.r rfl (.inl rfl) rfl (by decide) (yr_assign rfl rfl) ?_
  refine Dr.SW.a rfl rfl rfl (by decide) rfl (fun w0 => (yn_makeSlicez 1 rfl rfl Try.underlying23 elt26_Block rfl rfl rfl (by omega) (by omega))) ?_
  intro b26
  refine Dr.SW.r rfl (.inl rfl) rfl (by decide) (yr_assign rfl rfl) ?_
  refine Dr.SW.done ?_
  refine Dr.eqO (by simp only [List.append_nil, List.append_assoc, List.cons_append, List.nil_append] <;> rfl) ?_
  refine VE.then_wp ?_
  refine V.seq ?_
  refine V.seq ?_
  refine V.region ?_
  refine VL.r (.inl rfl) rfl (by decide) (yr_move rfl rfl) ?_
  refine VL.r (.inl rfl) rfl (by decide) (yr_mulN blk 8 rfl rfl rfl (by omega) (by omega) (Nat.le_trans (mul_small (by omega) (by omega)) (by decide))) ?_
  refine VL.r (.inl rfl) rfl (by decide) (yr_assign rfl rfl) ?_
  refine VL.nil ?_
  refine VE.then_wp ?_
  refine V.block ?_
  refine V.loopc (G := Nat × (List Nat) × (List Nat)) [(1, _), (2, _), (6, _), (7, _), (8, _)] (fun ⟨i, A, B⟩ => i ≤ cnt ∧ A.length = (xss.getD 0 []).length * (xss.getD 0 []).length ∧ B.length = (xss.getD 0 []).length ∧ (∀ j k, j < (xss.getD 0 []).length → k < (xss.getD 0 []).length → A.getD (j * (xss.getD 0 []).length + k) 0 = blkA xss gs fr j k i) ∧ ∀ j, j < (xss.getD 0 []).length → B.getD j 0 = blkB xss ws gs fr j i) (fun ⟨i, A, B⟩ => [⟨some ⟨b26, 0, none⟩, fl B, (xss.getD 0 []).length * 1, 26⟩, ⟨some ⟨b24, 0, none⟩, fl A, ((xss.getD 0 []).length * (xss.getD 0 []).length) * 1, 26⟩, ⟨some ⟨b2, 0, none⟩, [.slice a xss.length c, .slice a1 ws.length c1, .slice a2 gs.length c2], 3, 30⟩]) (fun ⟨i, A, B⟩ => [(9, .int .i64 ((fr + i : Nat) : Int))]) (fun ⟨i, A, B⟩ => cnt - i) (0, List.replicate ((xss.getD 0 []).length * (xss.getD 0 []).length) 0, List.replicate (xss.getD 0 []).length 0) (.cons rfl (.cons rfl (.cons rfl (.cons rfl (.cons rfl .nil))))) (.cons (congrArg (fun i => some (Value.int .i64 i)) (by omega)) .nil) ?_ ?_ ?_
  · exact (fun w hw => by rw [fl_zeros, fl_zeros] at hw; exact hw)
  · exact (by refine ⟨by omega, by simp, by simp, fun j k _ _ => ?_, fun j _ => ?_⟩ <;> rw [replicate_getD] <;> rfl)
  rintro ⟨i, A, B⟩ ⟨hi, hAl, hBl, hA2, hB2⟩
  show V _ _ _ [⟨some ⟨b26, 0, none⟩, fl B, (xss.getD 0 []).length * 1, 26⟩, ⟨some ⟨b24, 0, none⟩, fl A, ((xss.getD 0 []).length * (xss.getD 0 []).length) * 1, 26⟩, ⟨some ⟨b2, 0, none⟩, [.slice a xss.length c, .slice a1 ws.length c1, .slice a2 gs.length c2], 3, 30⟩] ([(9, .int .i64 ((fr + i : Nat) : Int))] ++ [(1, _), (2, _), (6, _), (7, _), (8, _)]) _ _
  have hrl := fun h => hN (fr + i) h
  refine V.seq ?_
  refine V.seq ?_
  refine V.region ?_
  refine VL.r (.inl rfl) rfl (by decide) (yr_move rfl rfl) ?_
  refine VL.r (.inl rfl) rfl (by decide) (yr_move rfl rfl) ?_
  refine VL.r (.inl rfl) rfl (by decide) (yr_int rfl rfl rfl (.inl ⟨rfl, wrap_in (by omega)⟩)) ?_
  refine VL.r (.inl rfl) rfl (by decide) (yr_mulN (blk + 1) 8 rfl rfl rfl (by omega) (by omega) (Nat.le_trans (mul_small (by omega) (by omega)) (by decide))) ?_
  refine VL.r (.inl rfl) rfl (by decide) (yr_fieldAddr rfl Try.underlying30 rfl rfl sz22_Block (by decide) rfl) ?_
  refine VL.q (.inl rfl) rfl (by decide) (yq_load rfl fb22_Block rfl (by first | exact Sees.root (by assumption) | exact Sees.own (by repeat (first | exact List.mem_cons_self | exact List.mem_append_left _ (by assumption) | apply List.mem_cons_of_mem | apply List.mem_append_right)) | exact Sees.root (hR _ (by omega)) | exact Sees.own (RowsIn.mem (by repeat (first | exact RowsIn.here | exact RowsIn.last | apply RowsIn.there | apply RowsIn.thereS)) _ (by omega)) | exact Sees.own (WRowsIn.mem (by repeat (first | exact WRowsIn.here | exact WRowsIn.last | apply WRowsIn.there | apply WRowsIn.thereS)) _ (by omega))) rfl) ?_
  refine VL.r (.inl rfl) rfl (by decide) (yr_len rfl Try.underlying22 rfl) ?_
  refine VL.r (.inl rfl) rfl (by decide) (yr_minI rfl rfl rfl) ?_
  refine VL.r (.inl rfl) rfl (by decide) (yr_icmp rfl (.inr (.inr (.inl rfl))) rfl rfl) ?_
  refine VL.nil ?_
  refine VE.then_wp ?_
  refine V.cond rfl (fun h1 => ?_) (fun h1 => ?_)
  · skip
    replace h1 := ic_lss h1
    refine V.skip ?_
    refine VE.then_wp ?_
    refine V.seq ?_
    refine V.block ?_
    refine V.seq ?_
    refine V.region ?_
    refine VL.r (.inl rfl) rfl (by decide) (yr_fieldAddr rfl Try.underlying30 rfl rfl sz22_Block (by decide) rfl) ?_
    refine VL.q (.inl rfl) rfl (by decide) (yq_load rfl fb22_Block rfl (by first | exact Sees.root (by assumption) | exact Sees.own (by repeat (first | exact List.mem_cons_self | exact List.mem_append_left _ (by assumption) | apply List.mem_cons_of_mem | apply List.mem_append_right)) | exact Sees.root (hR _ (by omega)) | exact Sees.own (RowsIn.mem (by repeat (first | exact RowsIn.here | exact RowsIn.last | apply RowsIn.there | apply RowsIn.thereS)) _ (by omega)) | exact Sees.own (WRowsIn.mem (by repeat (first | exact WRowsIn.here | exact WRowsIn.last | apply WRowsIn.there | apply WRowsIn.thereS)) _ (by omega))) rfl) ?_
    refine VL.r (.inl rfl) rfl (by decide) (yr_move rfl rfl) ?_
    refine VL.q (.inl rfl) rfl (by decide) (yq_idx (k := (fr + i)) rfl Try.underlying22 sz23_Block rfl rfl (by first | exact Sees.root (by assumption) | exact Sees.own (by repeat (first | exact List.mem_cons_self | exact List.mem_append_left _ (by assumption) | apply List.mem_cons_of_mem | apply List.mem_append_right)) | exact Sees.root (hR _ (by omega)) | exact Sees.own (RowsIn.mem (by repeat (first | exact RowsIn.here | exact RowsIn.last | apply RowsIn.there | apply RowsIn.thereS)) _ (by omega)) | exact Sees.own (WRowsIn.mem (by repeat (first | exact WRowsIn.here | exact WRowsIn.last | apply WRowsIn.there | apply WRowsIn.thereS)) _ (by omega))) (by first | rfl | omega | (push_cast; rfl) | (push_cast; omega) | exact tmod_nat _ _) (by first | exact fl_length _ | exact hd_length _ _ | (rw [fl_length]; omega)) (by omega)) ?_
    refine VL.q (.inl rfl) rfl (by decide) (yq_loadH rfl fb23_Block rfl (by first | exact Sees.root (by assumption) | exact Sees.own (by repeat (first | exact List.mem_cons_self | exact List.mem_append_left _ (by assumption) | apply List.mem_cons_of_mem | apply List.mem_append_right)) | exact Sees.root (hR _ (by omega)) | exact Sees.own (RowsIn.mem (by repeat (first | exact RowsIn.here | exact RowsIn.last | apply RowsIn.there | apply RowsIn.thereS)) _ (by omega)) | exact Sees.own (WRowsIn.mem (by repeat (first | exact WRowsIn.here | exact WRowsIn.last | apply WRowsIn.there | apply WRowsIn.thereS)) _ (by omega))) (by omega)) ?_
    refine VL.r (.inl rfl) rfl (by decide) (yr_assign rfl rfl) ?_
    refine VL.nil ?_
    refine VE.then_wp ?_
    refine V.seq ?_
    refine V.region ?_
    refine VL.r (.inl rfl) rfl (by decide) (yr_move rfl rfl) ?_
    refine VL.r (.inl rfl) rfl (by decide) (yr_len rfl Try.underlying23 rfl) ?_
    refine VL.r (.inl rfl) rfl (by decide) (yr_move (u := .int .i64 0) rfl rfl) ?_
    refine VL.nil ?_
    refine VE.then_wp ?_
    refine V.block ?_
    refine V.loopc (G := Nat × (List Nat) × (List Nat)) [(1, _), (2, _), (6, _), (7, _), (8, _), (9, _), (10, _), (45, _), (46, _)] (fun ⟨j, A1, B1⟩ => j ≤ (xss.getD 0 []).length ∧ A1.length = (xss.getD 0 []).length * (xss.getD 0 []).length ∧ B1.length = (xss.getD 0 []).length ∧ (∀ j1 k1, j1 < (xss.getD 0 []).length → k1 < (xss.getD 0 []).length → A1.getD (j1 * (xss.getD 0 []).length + k1) 0 = blkA xss gs fr j1 k1 (if j1 < j then i + 1 else i)) ∧ ∀ j1, j1 < (xss.getD 0 []).length → B1.getD j1 0 = blkB xss ws gs fr j1 (if j1 < j then i + 1 else i)) (fun ⟨j, A1, B1⟩ => [⟨some ⟨b26, 0, none⟩, fl B1, (xss.getD 0 []).length * 1, 26⟩, ⟨some ⟨b24, 0, none⟩, fl A1, ((xss.getD 0 []).length * (xss.getD 0 []).length) * 1, 26⟩, ⟨some ⟨b2, 0, none⟩, [.slice a xss.length c, .slice a1 ws.length c1, .slice a2 gs.length c2], 3, 30⟩]) (fun ⟨j, A1, B1⟩ => [(47, .int .i64 (j : Int))]) (fun ⟨j, A1, B1⟩ => (xss.getD 0 []).length - j) (0, A, B) (.cons rfl (.cons rfl (.cons rfl (.cons rfl (.cons rfl (.cons rfl (.cons rfl (.cons rfl (.cons rfl .nil))))))))) (.cons rfl .nil) ?_ ?_ ?_
    · exact (fun w hw => hw)
    · exact (by exact ⟨by omega, hAl, hBl, fun j1 k1 h1 h2 => by rw [hA2 j1 k1 h1 h2, if_neg (by omega)], fun j1 h1 => by rw [hB2 j1 h1, if_neg (by omega)]⟩)
    rintro ⟨j, A1, B1⟩ ⟨hj, hA1l, hB1l, hA3, hB3⟩
    show V _ _ _ [⟨some ⟨b26, 0, none⟩, fl B1, (xss.getD 0 []).length * 1, 26⟩, ⟨some ⟨b24, 0, none⟩, fl A1, ((xss.getD 0 []).length * (xss.getD 0 []).length) * 1, 26⟩, ⟨some ⟨b2, 0, none⟩, [.slice a xss.length c, .slice a1 ws.length c1, .slice a2 gs.length c2], 3, 30⟩] ([(47, .int .i64 (j : Int))] ++ [(1, _), (2, _), (6, _), (7, _), (8, _), (9, _), (10, _), (45, _), (46, _)]) _ _
    have hixj := fun (h : j < (xss.getD 0 []).length) (k : Nat) (hk : k < (xss.getD 0 []).length) => hix h hk
    refine V.seq ?_
    refine V.region ?_
    refine VL.r (.inl rfl) rfl (by decide) (yr_icmp rfl (.inr (.inr (.inl rfl))) rfl rfl) ?_
    refine VL.nil ?_
    refine VE.then_wp ?_
    refine V.seq ?_
    refine V.cond rfl (fun h2 => ?_) (fun h2 => ?_)
    · skip
      replace h2 := ic_lss h2
      refine V.skip ?_
      refine VE.then_wp ?_
      refine V.seq ?_
      refine V.block ?_
      refine V.seq ?_
      refine V.region ?_
      refine VL.r (.inl rfl) rfl (by decide) (yr_move rfl rfl) ?_
      refine VL.q (.inl rfl) rfl (by decide) (yq_idx (k := j) rfl Try.underlying23 sz26_Block rfl rfl (by first | exact Sees.root (by assumption) | exact Sees.own (by repeat (first | exact List.mem_cons_self | exact List.mem_append_left _ (by assumption) | apply List.mem_cons_of_mem | apply List.mem_append_right)) | exact Sees.root (hR _ (by omega)) | exact Sees.own (RowsIn.mem (by repeat (first | exact RowsIn.here | exact RowsIn.last | apply RowsIn.there | apply RowsIn.thereS)) _ (by omega)) | exact Sees.own (WRowsIn.mem (by repeat (first | exact WRowsIn.here | exact WRowsIn.last | apply WRowsIn.there | apply WRowsIn.thereS)) _ (by omega))) (by first | rfl | omega | (push_cast; rfl) | (push_cast; omega) | exact tmod_nat _ _) (by first | exact fl_length _ | exact hd_length _ _ | (rw [fl_length]; omega)) (by omega)) ?_
      refine VL.q (.inl rfl) rfl (by decide) (yq_loadF rfl fb26_Block rfl (by first | exact Sees.root (by assumption) | exact Sees.own (by repeat (first | exact List.mem_cons_self | exact List.mem_append_left _ (by assumption) | apply List.mem_cons_of_mem | apply List.mem_append_right)) | exact Sees.root (hR _ (by omega)) | exact Sees.own (RowsIn.mem (by repeat (first | exact RowsIn.here | exact RowsIn.last | apply RowsIn.there | apply RowsIn.thereS)) _ (by omega)) | exact Sees.own (WRowsIn.mem (by repeat (first | exact WRowsIn.here | exact WRowsIn.last | apply WRowsIn.there | apply WRowsIn.thereS)) _ (by omega))) (by omega)) ?_
      refine VL.r (.inl rfl) rfl (by decide) (yr_assign rfl rfl) ?_
      refine VL.r (.inl rfl) rfl (by decide) (yr_assign rfl rfl) ?_
      refine VL.nil ?_
      refine VE.then_wp ?_
      refine V.seq ?_
      refine V.region ?_
      refine VL.r (.inl rfl) rfl (by decide) (yr_fieldAddr rfl Try.underlying30 rfl rfl sz23_Block (by decide) rfl) ?_
      refine VL.q (.inl rfl) rfl (by decide) (yq_load rfl fb23_Block rfl (by first | exact Sees.root (by assumption) | exact Sees.own (by repeat (first | exact List.mem_cons_self | exact List.mem_append_left _ (by assumption) | apply List.mem_cons_of_mem | apply List.mem_append_right)) | exact Sees.root (hR _ (by omega)) | exact Sees.own (RowsIn.mem (by repeat (first | exact RowsIn.here | exact RowsIn.last | apply RowsIn.there | apply RowsIn.thereS)) _ (by omega)) | exact Sees.own (WRowsIn.mem (by repeat (first | exact WRowsIn.here | exact WRowsIn.last | apply WRowsIn.there | apply WRowsIn.thereS)) _ (by omega))) rfl) ?_
      refine VL.r (.inl rfl) rfl (by decide) (yr_move rfl rfl) ?_
      refine VL.q (.inl rfl) rfl (by decide) (yq_idx (k := (fr + i)) rfl Try.underlying23 sz26_Block rfl rfl (by first | exact Sees.root (by assumption) | exact Sees.own (by repeat (first | exact List.mem_cons_self | exact List.mem_append_left _ (by assumption) | apply List.mem_cons_of_mem | apply List.mem_append_right)) | exact Sees.root (hR _ (by omega)) | exact Sees.own (RowsIn.mem (by repeat (first | exact RowsIn.here | exact RowsIn.last | apply RowsIn.there | apply RowsIn.thereS)) _ (by omega)) | exact Sees.own (WRowsIn.mem (by repeat (first | exact WRowsIn.here | exact WRowsIn.last | apply WRowsIn.there | apply WRowsIn.thereS)) _ (by omega))) (by first | rfl | omega | (push_cast; rfl) | (push_cast; omega) | exact tmod_nat _ _) (by first | exact fl_length _ | exact hd_length _ _ | (rw [fl_length]; omega)) (by omega)) ?_
      refine VL.q (.inl rfl) rfl (by decide) (yq_loadF rfl fb26_Block rfl (by first | exact Sees.root (by assumption) | exact Sees.own (by repeat (first | exact List.mem_cons_self | exact List.mem_append_left _ (by assumption) | apply List.mem_cons_of_mem | apply List.mem_append_right)) | exact Sees.root (hR _ (by omega)) | exact Sees.own (RowsIn.mem (by repeat (first | exact RowsIn.here | exact RowsIn.last | apply RowsIn.there | apply RowsIn.thereS)) _ (by omega)) | exact Sees.own (WRowsIn.mem (by repeat (first | exact WRowsIn.here | exact WRowsIn.last | apply WRowsIn.there | apply WRowsIn.thereS)) _ (by omega))) (by omega)) ?_
      refine VL.r (.inl rfl) rfl (by decide) (yr_move rfl rfl) ?_
      refine VL.r (.inl rfl) rfl (by decide) (yr_float rfl (.inr (.inr (.inl rfl))) rfl rfl) ?_
      refine VL.r (.inl rfl) rfl (by decide) (yr_assign rfl rfl) ?_
      refine VL.nil ?_
      refine VE.then_wp ?_
      refine V.seq ?_
      refine V.seq ?_
      refine V.region ?_
      refine VL.r (.inl rfl) rfl (by decide) (yr_move rfl rfl) ?_
      refine VL.r (.inl rfl) rfl (by decide) (yr_len rfl Try.underlying23 rfl) ?_
      refine VL.r (.inl rfl) rfl (by decide) (yr_move (u := .int .i64 0) rfl rfl) ?_
      refine VL.nil ?_
      refine VE.then_wp ?_
      refine V.block ?_
      refine V.loopc (G := Nat × (List Nat)) [(1, _), (2, _), (6, _), (7, _), (8, _), (9, _), (10, _), (11, _), (13, _), (45, _), (46, _), (47, _), (59, _), (60, _)] (fun ⟨k, A2⟩ => k ≤ (xss.getD 0 []).length ∧ A2.length = (xss.getD 0 []).length * (xss.getD 0 []).length ∧ ∀ j1 k1, j1 < (xss.getD 0 []).length → k1 < (xss.getD 0 []).length → A2.getD (j1 * (xss.getD 0 []).length + k1) 0 = blkA xss gs fr j1 k1 (if j1 < j ∨ (j1 = j ∧ k1 < k) then i + 1 else i)) (fun ⟨k, A2⟩ => [⟨some ⟨b26, 0, none⟩, fl B1, (xss.getD 0 []).length * 1, 26⟩, ⟨some ⟨b24, 0, none⟩, fl A2, ((xss.getD 0 []).length * (xss.getD 0 []).length) * 1, 26⟩, ⟨some ⟨b2, 0, none⟩, [.slice a xss.length c, .slice a1 ws.length c1, .slice a2 gs.length c2], 3, 30⟩]) (fun ⟨k, A2⟩ => [(61, .int .i64 (k : Int))]) (fun ⟨k, A2⟩ => (xss.getD 0 []).length - k) (0, A1) (.cons rfl (.cons rfl (.cons rfl (.cons rfl (.cons rfl (.cons rfl (.cons rfl (.cons rfl (.cons rfl (.cons rfl (.cons rfl (.cons rfl (.cons rfl (.cons rfl .nil)))))))))))))) (.cons rfl .nil) ?_ ?_ ?_
      · exact (fun w hw => hw)
      · exact (by exact ⟨by omega, hA1l, up_or hA3⟩)
      rintro ⟨k, A2⟩ ⟨hk, hA2l, hA4⟩
      show V _ _ _ [⟨some ⟨b26, 0, none⟩, fl B1, (xss.getD 0 []).length * 1, 26⟩, ⟨some ⟨b24, 0, none⟩, fl A2, ((xss.getD 0 []).length * (xss.getD 0 []).length) * 1, 26⟩, ⟨some ⟨b2, 0, none⟩, [.slice a xss.length c, .slice a1 ws.length c1, .slice a2 gs.length c2], 3, 30⟩] ([(61, .int .i64 (k : Int))] ++ [(1, _), (2, _), (6, _), (7, _), (8, _), (9, _), (10, _), (11, _), (13, _), (45, _), (46, _), (47, _), (59, _), (60, _)]) _ _
      have hixk := fun (h : j < (xss.getD 0 []).length) (hk : k < (xss.getD 0 []).length) => hix h hk
      refine V.seq ?_
      refine V.region ?_
      refine VL.r (.inl rfl) rfl (by decide) (yr_icmp rfl (.inr (.inr (.inl rfl))) rfl rfl) ?_
      refine VL.nil ?_
      refine VE.then_wp ?_
      refine V.seq ?_
      refine V.cond rfl (fun h3 => ?_) (fun h3 => ?_)
      · skip
        replace h3 := ic_lss h3
        refine V.skip ?_
        refine VE.then_wp ?_
        refine V.seq ?_
        refine V.block ?_
        refine V.seq ?_
        refine V.region ?_
        refine VL.r (.inl rfl) rfl (by decide) (yr_move rfl rfl) ?_
        refine VL.q (.inl rfl) rfl (by decide) (yq_idx (k := k) rfl Try.underlying23 sz26_Block rfl rfl (by first | exact Sees.root (by assumption) | exact Sees.own (by repeat (first | exact List.mem_cons_self | exact List.mem_append_left _ (by assumption) | apply List.mem_cons_of_mem | apply List.mem_append_right)) | exact Sees.root (hR _ (by omega)) | exact Sees.own (RowsIn.mem (by repeat (first | exact RowsIn.here | exact RowsIn.last | apply RowsIn.there | apply RowsIn.thereS)) _ (by omega)) | exact Sees.own (WRowsIn.mem (by repeat (first | exact WRowsIn.here | exact WRowsIn.last | apply WRowsIn.there | apply WRowsIn.thereS)) _ (by omega))) (by first | rfl | omega | (push_cast; rfl) | (push_cast; omega) | exact tmod_nat _ _) (by first | exact fl_length _ | exact hd_length _ _ | (rw [fl_length]; omega)) (by omega)) ?_
        refine VL.q (.inl rfl) rfl (by decide) (yq_loadF rfl fb26_Block rfl (by first | exact Sees.root (by assumption) | exact Sees.own (by repeat (first | exact List.mem_cons_self | exact List.mem_append_left _ (by assumption) | apply List.mem_cons_of_mem | apply List.mem_append_right)) | exact Sees.root (hR _ (by omega)) | exact Sees.own (RowsIn.mem (by repeat (first | exact RowsIn.here | exact RowsIn.last | apply RowsIn.there | apply RowsIn.thereS)) _ (by omega)) | exact Sees.own (WRowsIn.mem (by repeat (first | exact WRowsIn.here | exact WRowsIn.last | apply WRowsIn.there | apply WRowsIn.thereS)) _ (by omega))) (by omega)) ?_
        refine VL.r (.inl rfl) rfl (by decide) (yr_assign rfl rfl) ?_
        refine VL.r (.inl rfl) rfl (by decide) (yr_assign rfl rfl) ?_
        refine VL.nil ?_
        refine VE.then_wp ?_
        refine V.region ?_
        refine VL.r (.inl rfl) rfl (by decide) (yr_move rfl rfl) ?_
        refine VL.r (.inl rfl) rfl (by decide) (yr_move rfl rfl) ?_
        refine VL.r (.inl rfl) rfl (by decide) (yr_move rfl rfl) ?_
        refine VL.r (.inl rfl) rfl (by decide) (yr_mulN j (xss.getD 0 []).length rfl rfl rfl (by omega) (by omega) (Nat.le_trans (mul_small (by omega) (by omega)) (by decide))) ?_
        refine VL.r (.inl rfl) rfl (by decide) (yr_move rfl rfl) ?_
        refine VL.r (.inl rfl) rfl (by decide) (yr_int rfl rfl rfl (.inl ⟨rfl, wrap_in (by omega)⟩)) ?_
        refine VL.r (.inl rfl) rfl (by decide) (yr_move rfl rfl) ?_
        refine VL.r (.inl rfl) rfl (by decide) (yr_move rfl rfl) ?_
        refine VL.r (.inl rfl) rfl (by decide) (yr_move rfl rfl) ?_
        refine VL.r (.inl rfl) rfl (by decide) (yr_mulN j (xss.getD 0 []).length rfl rfl rfl (by omega) (by omega) (Nat.le_trans (mul_small (by omega) (by omega)) (by decide))) ?_
        refine VL.r (.inl rfl) rfl (by decide) (yr_move rfl rfl) ?_
        refine VL.r (.inl rfl) rfl (by decide) (yr_int rfl rfl rfl (.inl ⟨rfl, wrap_in (by omega)⟩)) ?_
        refine VL.q (.inl rfl) rfl (by decide) (yq_idx (k := ((j * (xss.getD 0 []).length) + k)) rfl Try.underlying23 sz26_Block rfl rfl (by first | exact Sees.root (by assumption) | exact Sees.own (by repeat (first | exact List.mem_cons_self | exact List.mem_append_left _ (by assumption) | apply List.mem_cons_of_mem | apply List.mem_append_right)) | exact Sees.root (hR _ (by omega)) | exact Sees.own (RowsIn.mem (by repeat (first | exact RowsIn.here | exact RowsIn.last | apply RowsIn.there | apply RowsIn.thereS)) _ (by omega)) | exact Sees.own (WRowsIn.mem (by repeat (first | exact WRowsIn.here | exact WRowsIn.last | apply WRowsIn.there | apply WRowsIn.thereS)) _ (by omega))) (by first | rfl | omega | (push_cast; rfl) | (push_cast; omega) | exact tmod_nat _ _) (by first | exact fl_length _ | exact hd_length _ _ | (rw [fl_length]; omega)) (by omega)) ?_
        refine VL.q (.inl rfl) rfl (by decide) (yq_loadF rfl fb26_Block rfl (by first | exact Sees.root (by assumption) | exact Sees.own (by repeat (first | exact List.mem_cons_self | exact List.mem_append_left _ (by assumption) | apply List.mem_cons_of_mem | apply List.mem_append_right)) | exact Sees.root (hR _ (by omega)) | exact Sees.own (RowsIn.mem (by repeat (first | exact RowsIn.here | exact RowsIn.last | apply RowsIn.there | apply RowsIn.thereS)) _ (by omega)) | exact Sees.own (WRowsIn.mem (by repeat (first | exact WRowsIn.here | exact WRowsIn.last | apply WRowsIn.there | apply WRowsIn.thereS)) _ (by omega))) (by omega)) ?_
        refine VL.r (.inl rfl) rfl (by decide) (yr_move rfl rfl) ?_
        refine VL.r (.inl rfl) rfl (by decide) (yr_move rfl rfl) ?_
        refine VL.r (.inl rfl) rfl (by decide) (yr_float rfl (.inr (.inr (.inl rfl))) rfl rfl) ?_
        refine VL.r (.inl rfl) rfl (by decide) (yr_float rfl (.inl rfl) rfl rfl) ?_
        refine VL.q (.inl rfl) rfl (by decide) (yq_idx (k := ((j * (xss.getD 0 []).length) + k)) rfl Try.underlying23 sz26_Block rfl rfl (by first | exact Sees.root (by assumption) | exact Sees.own (by repeat (first | exact List.mem_cons_self | exact List.mem_append_left _ (by assumption) | apply List.mem_cons_of_mem | apply List.mem_append_right)) | exact Sees.root (hR _ (by omega)) | exact Sees.own (RowsIn.mem (by repeat (first | exact RowsIn.here | exact RowsIn.last | apply RowsIn.there | apply RowsIn.thereS)) _ (by omega)) | exact Sees.own (WRowsIn.mem (by repeat (first | exact WRowsIn.here | exact WRowsIn.last | apply WRowsIn.there | apply WRowsIn.thereS)) _ (by omega))) (by first | rfl | omega | (push_cast; rfl) | (push_cast; omega) | exact tmod_nat _ _) (by first | exact fl_length _ | exact hd_length _ _ | (rw [fl_length]; omega)) (by omega)) ?_
        refine VL.s (.inl rfl) rfl (yc_store rfl sz26_Block rfl rfl (by repeat (first | exact UpdF.here | apply UpdF.there | apply UpdF.thereS)) (.inl ⟨rfl, rfl⟩) rfl (by rw [fl_length]; omega) (by decide) (fl_set _ _ _)) ?_
        rintro ⟨⟩
        refine VL.nil ?_
        refine VE.block_normal ?_
        refine VE.then_wp ?_
        refine V.region ?_
        refine VL.r (.inl rfl) rfl (by decide) (yr_int rfl rfl rfl (.inl ⟨rfl, wrap_in (by omega)⟩)) ?_
        refine VL.r (.inl rfl) rfl (by decide) (yr_move rfl rfl) ?_
        refine VL.nil ?_
        refine VE.round (k + 1, A2.set (j * (xss.getD 0 []).length + k) (fop .add .f32 (A2.getD (j * (xss.getD 0 []).length + k) 0) (fop .mul .f32 (fop .mul .f32 (gs.getD (fr + i) 0) ((xss.getD (fr + i) []).getD j 0)) ((xss.getD (fr + i) []).getD k 0)))) ?_ ?_ ?_ ?_ ?_
        · exact (.cons rfl .nil)
        · exact (.cons rfl (.cons rfl (.cons rfl (.cons rfl (.cons rfl (.cons rfl (.cons rfl (.cons rfl (.cons rfl (.cons rfl (.cons rfl (.cons rfl (.cons rfl (.cons rfl .nil))))))))))))))
        · exact (fun w hw => hw)
        · exact ⟨by omega, by simp [hA2l], blkA_step hA2l (by omega) (by omega) hA4⟩
        · (try dsimp only); omega
      · skip
        replace h3 := ic_lss' h3
        refine V.exit ?_
        refine VE.then_exit ?_
        refine VE.then_exit ?_
        refine VE.block_here ?_
        refine VE.then_wp ?_
        refine V.draw [(0, 0), (1, 0), (2, 0), (3, 0), (4, 0), (5, 0), (6, 0), (7, 0), (8, 0), (9, 0), (10, 0), (11, 0), (12, 0), (13, 0), (14, 0), (15, 3)] mixed_Block (by kernel_rfl) (by intro j o hj; simp at hj) ?_
        refine SW.r rfl (.inl rfl) rfl (by decide) (yr_move rfl rfl) ?_
        refine SW.r rfl (.inl rfl) rfl (by decide) (yr_move rfl rfl) ?_
        refine SW.r rfl (.inl rfl) rfl (by decide) (yr_move rfl rfl) ?_
        refine SW.r rfl (.inl rfl) rfl (by decide) (yr_move rfl rfl) ?_
        refine SW.q rfl (.inl rfl) rfl (by decide) (yq_idx (k := j) rfl Try.underlying23 sz26_Block rfl rfl (by first | exact Sees.root (by assumption) | exact Sees.own (by repeat (first | exact List.mem_cons_self | exact List.mem_append_left _ (by assumption) | apply List.mem_cons_of_mem | apply List.mem_append_right)) | exact Sees.root (hR _ (by omega)) | exact Sees.own (RowsIn.mem (by repeat (first | exact RowsIn.here | exact RowsIn.last | apply RowsIn.there | apply RowsIn.thereS)) _ (by omega)) | exact Sees.own (WRowsIn.mem (by repeat (first | exact WRowsIn.here | exact WRowsIn.last | apply WRowsIn.there | apply WRowsIn.thereS)) _ (by omega))) (by first | rfl | omega | (push_cast; rfl) | (push_cast; omega) | exact tmod_nat _ _) (by first | exact fl_length _ | exact hd_length _ _ | (rw [fl_length]; omega)) (by omega)) ?_
        refine SW.q rfl (.inl rfl) rfl (by decide) (yq_loadF rfl fb26_Block rfl (by first | exact Sees.root (by assumption) | exact Sees.own (by repeat (first | exact List.mem_cons_self | exact List.mem_append_left _ (by assumption) | apply List.mem_cons_of_mem | apply List.mem_append_right)) | exact Sees.root (hR _ (by omega)) | exact Sees.own (RowsIn.mem (by repeat (first | exact RowsIn.here | exact RowsIn.last | apply RowsIn.there | apply RowsIn.thereS)) _ (by omega)) | exact Sees.own (WRowsIn.mem (by repeat (first | exact WRowsIn.here | exact WRowsIn.last | apply WRowsIn.there | apply WRowsIn.thereS)) _ (by omega))) (by omega)) ?_
        refine SW.r rfl (.inl rfl) rfl (by decide) (yr_move rfl rfl) ?_
        refine SW.r rfl (.inl rfl) rfl (by decide) (yr_fieldAddr rfl Try.underlying30 rfl rfl sz23_Block (by decide) rfl) ?_
        refine SW.q rfl (.inl rfl) rfl (by decide) (yq_load rfl fb23_Block rfl (by first | exact Sees.root (by assumption) | exact Sees.own (by repeat (first | exact List.mem_cons_self | exact List.mem_append_left _ (by assumption) | apply List.mem_cons_of_mem | apply List.mem_append_right)) | exact Sees.root (hR _ (by omega)) | exact Sees.own (RowsIn.mem (by repeat (first | exact RowsIn.here | exact RowsIn.last | apply RowsIn.there | apply RowsIn.thereS)) _ (by omega)) | exact Sees.own (WRowsIn.mem (by repeat (first | exact WRowsIn.here | exact WRowsIn.last | apply WRowsIn.there | apply WRowsIn.thereS)) _ (by omega))) rfl) ?_
        refine SW.r rfl (.inl rfl) rfl (by decide) (yr_move rfl rfl) ?_
        refine SW.q rfl (.inl rfl) rfl (by decide) (yq_idx (k := (fr + i)) rfl Try.underlying23 sz26_Block rfl rfl (by first | exact Sees.root (by assumption) | exact Sees.own (by repeat (first | exact List.mem_cons_self | exact List.mem_append_left _ (by assumption) | apply List.mem_cons_of_mem | apply List.mem_append_right)) | exact Sees.root (hR _ (by omega)) | exact Sees.own (RowsIn.mem (by repeat (first | exact RowsIn.here | exact RowsIn.last | apply RowsIn.there | apply RowsIn.thereS)) _ (by omega)) | exact Sees.own (WRowsIn.mem (by repeat (first | exact WRowsIn.here | exact WRowsIn.last | apply WRowsIn.there | apply WRowsIn.thereS)) _ (by omega))) (by first | rfl | omega | (push_cast; rfl) | (push_cast; omega) | exact tmod_nat _ _) (by first | exact fl_length _ | exact hd_length _ _ | (rw [fl_length]; omega)) (by omega)) ?_
        refine SW.q rfl (.inl rfl) rfl (by decide) (yq_loadF rfl fb26_Block rfl (by first | exact Sees.root (by assumption) | exact Sees.own (by repeat (first | exact List.mem_cons_self | exact List.mem_append_left _ (by assumption) | apply List.mem_cons_of_mem | apply List.mem_append_right)) | exact Sees.root (hR _ (by omega)) | exact Sees.own (RowsIn.mem (by repeat (first | exact RowsIn.here | exact RowsIn.last | apply RowsIn.there | apply RowsIn.thereS)) _ (by omega)) | exact Sees.own (WRowsIn.mem (by repeat (first | exact WRowsIn.here | exact WRowsIn.last | apply WRowsIn.there | apply WRowsIn.thereS)) _ (by omega))) (by omega)) ?_
        refine SW.r rfl (.inl rfl) rfl (by decide) (yr_float rfl (.inr (.inr (.inl rfl))) rfl rfl) ?_
        refine SW.r rfl (.inl rfl) rfl (by decide) (yr_float rfl (.inl rfl) rfl rfl) ?_
        refine SW.q rfl (.inl rfl) rfl (by decide) (yq_idx (k := j) rfl Try.underlying23 sz26_Block rfl rfl (by first | exact Sees.root (by assumption) | exact Sees.own (by repeat (first | exact List.mem_cons_self | exact List.mem_append_left _ (by assumption) | apply List.mem_cons_of_mem | apply List.mem_append_right)) | exact Sees.root (hR _ (by omega)) | exact Sees.own (RowsIn.mem (by repeat (first | exact RowsIn.here | exact RowsIn.last | apply RowsIn.there | apply RowsIn.thereS)) _ (by omega)) | exact Sees.own (WRowsIn.mem (by repeat (first | exact WRowsIn.here | exact WRowsIn.last | apply WRowsIn.there | apply WRowsIn.thereS)) _ (by omega))) (by first | rfl | omega | (push_cast; rfl) | (push_cast; omega) | exact tmod_nat _ _) (by first | exact fl_length _ | exact hd_length _ _ | (rw [fl_length]; omega)) (by omega)) ?_
        refine SW.s rfl (.inl rfl) rfl (yc_store rfl sz26_Block rfl rfl (by repeat (first | exact UpdF.here | apply UpdF.there | apply UpdF.thereS)) (.inl ⟨rfl, rfl⟩) rfl (by rw [fl_length]; omega) (by decide) (fl_set _ _ _)) ?_
        rintro ⟨⟩
        refine SW.done ?_
        refine VE.block_normal ?_
        refine VE.then_wp ?_
        refine V.region ?_
        refine VL.r (.inl rfl) rfl (by decide) (yr_int rfl rfl rfl (.inl ⟨rfl, wrap_in (by omega)⟩)) ?_
        refine VL.r (.inl rfl) rfl (by decide) (yr_move rfl rfl) ?_
        refine VL.nil ?_
        refine VE.round (j + 1, A2, B1.set j (fop .add .f32 (B1.getD j 0) (fop .mul .f32 (fop .mul .f32 (gs.getD (fr + i) 0) ((xss.getD (fr + i) []).getD j 0)) (ws.getD (fr + i) 0)))) ?_ ?_ ?_ ?_ ?_
        · exact (.cons rfl .nil)
        · exact (.cons rfl (.cons rfl (.cons rfl (.cons rfl (.cons rfl (.cons rfl (.cons rfl (.cons rfl (.cons rfl .nil)))))))))
        · exact (fun w hw => hw)
        · obtain rfl : k = (xss.getD 0 []).length := by omega
          exact ⟨by omega, hA2l, by simp [hB1l], or_up hA4, blkB_step hB1l (by omega) hB3⟩
        · (try dsimp only); omega
    · skip
      replace h2 := ic_lss' h2
      refine V.exit ?_
      refine VE.then_exit ?_
      refine VE.then_exit ?_
      refine VE.block_here ?_
      refine VE.block_normal ?_
      refine VE.then_wp ?_
      refine V.region ?_
      refine VL.r (.inl rfl) rfl (by decide) (yr_move rfl rfl) ?_
      refine VL.r (.inl rfl) rfl (by decide) (yr_int rfl rfl rfl (.inl ⟨rfl, wrap_in (by omega)⟩)) ?_
      refine VL.r (.inl rfl) rfl (by decide) (yr_assign rfl rfl) ?_
      refine VL.nil ?_
      refine VE.round (i + 1, A1, B1) ?_ ?_ ?_ ?_ ?_
      · exact (.cons (congrArg (fun i => some (Value.int .i64 i)) (by omega)) .nil)
      · exact (.cons rfl (.cons rfl (.cons rfl (.cons rfl (.cons rfl .nil)))))
      · exact (fun w hw => hw)
      · obtain rfl : j = (xss.getD 0 []).length := by omega
        exact ⟨by omega, hA1l, hB1l, fun j1 k1 h1 h2 => by rw [hA3 j1 k1 h1 h2, if_pos h1], fun j1 h1 => by rw [hB3 j1 h1, if_pos h1]⟩
      · (try dsimp only); omega
  · skip
    replace h1 := ic_lss' h1
    refine V.exit ?_
    refine VE.then_exit ?_
    refine VE.then_exit ?_
    refine VE.block_here ?_
    refine VE.then_wp ?_
    refine V.seq ?_
    refine V.region ?_
    refine VL.r (.inl rfl) rfl (by decide) (yr_move rfl rfl) ?_
    refine VL.r (.inl rfl) rfl (by decide) (yr_move rfl rfl) ?_
    refine VL.r (.inl rfl) rfl (by decide) (yr_assign rfl rfl) ?_
    refine VL.r (.inl rfl) rfl (by decide) (yr_assign rfl rfl) ?_
    refine VL.nil ?_
    refine VE.then_wp ?_
    refine V.ret ?_
    refine ret2 rfl rfl rfl (by nofun) (by nofun) (fun w1 hw => ?_)
    obtain rfl : i = cnt := by omega
    have hAe := ext_square hAl hA2
    have hBe : B = blockB xss ws gs fr i (xss.getD 0 []).length := ext_getD (by rw [hBl, blockB_length]) fun t ht => by rw [hB2 t (by omega), blockB, getD_range _ _ (by omega)]
    rw [hAe, hBe] at hw
    exact ⟨(b24, b26), rfl, hw.outs (((List.nil_sublist _).cons_cons _).cons_cons _)⟩

theorem c_l07At [PhC] {w : World} {q : Option Addr} {a a1 a2 : Option Addr} {c c1 c2 : Nat} {f : Nat → Option Addr × Nat} {xss : List (List Nat)} {ws gs : List Nat} {bi : Int} (hQ : Cl w q [.slice a xss.length c, .slice a1 ws.length c1, .slice a2 gs.length c2]) (hA : Cl w a (hd f xss)) (hR : Rws w f xss) (hW : Cl w a1 (fl ws)) (hG : Cl w a2 (fl gs)) (hsz : bulk xss + ws.length + gs.length ≤ 1050000) (hval : ValidP xss ws gs) (hb0 : 0 ≤ bi) (hb1 : bi * 8 ≤ xss.length) : New Try.prog 71 [.pointer (some (adr q 0)), .int .i64 bi] w (fun p : Nat × Nat => .tuple #[.slice (some ⟨p.1, 0, none⟩) ((xss.getD 0 []).length * (xss.getD 0 []).length) ((xss.getD 0 []).length * (xss.getD 0 []).length), .slice (some ⟨p.2, 0, none⟩) (xss.getD 0 []).length (xss.getD 0 []).length]) (fun p => [⟨some ⟨p.2, 0, none⟩, fl (blockB xss ws gs (bi.toNat * 8) (min 8 (xss.length - bi.toNat * 8)) (xss.getD 0 []).length), (xss.getD 0 []).length * 1, 26⟩, ⟨some ⟨p.1, 0, none⟩, fl (blockA xss gs (bi.toNat * 8) (min 8 (xss.length - bi.toNat * 8)) (xss.getD 0 []).length), ((xss.getD 0 []).length * (xss.getD 0 []).length) * 1, 26⟩]) := by
  refine New.enter Try.func71 rfl Try.ntmps71 (Nat.le_of_ble_eq_true rfl) ?_
  have hr : ∀ i, i < xss.length → (xss.getD i []).length ≤ 1050000 := fun i hi => by have := bulk_row hi; omega
  have hxl : xss.length ≤ bulk xss := by unfold bulk; omega
  refine V.seq ?_
  refine V.region ?_
  refine VL.r (.inl rfl) rfl (by decide) (yr_assign (u := .slice none 0 0) rfl rfl) ?_
  refine VL.r (.inl rfl) rfl (by decide) (yr_assign (u := .slice none 0 0) rfl rfl) ?_
  refine VL.nil ?_
  refine VE.then_wp ?_
  refine V.seq ?_
  refine V.region ?_
  refine VL.r (.inl rfl) rfl (by decide) (yr_move rfl rfl) ?_
  refine VL.r (.inl rfl) rfl (by decide) (yr_int rfl rfl rfl (.inr (.inr ⟨rfl, wrap_in (by omega)⟩))) ?_
  refine VL.r (.inl rfl) rfl (by decide) (yr_assign rfl rfl) ?_
  refine VL.nil ?_
  refine VE.then_wp ?_
  refine V.seq ?_
  refine V.region ?_
  refine VL.r (.inl rfl) rfl (by decide) (yr_move rfl rfl) ?_
  refine VL.r (.inl rfl) rfl (by decide) (yr_move rfl rfl) ?_
  refine VL.r (.inl rfl) rfl (by decide) (yr_move rfl rfl) ?_
  refine VL.r (.inl rfl) rfl (by decide) (yr_nilCheck rfl rfl) ?_
  refine VL.r (.inl rfl) rfl (by decide) (yr_fieldAddr rfl Try.underlying30 rfl rfl sz22_Block (by decide) rfl) ?_
  refine VL.q (.inl rfl) rfl (by decide) (yq_load rfl fb22_Block rfl (by first | exact Sees.root (by assumption) | exact Sees.own (by repeat (first | exact List.mem_cons_self | exact List.mem_append_left _ (by assumption) | apply List.mem_cons_of_mem | apply List.mem_append_right)) | exact Sees.root (hR _ (by omega)) | exact Sees.own (RowsIn.mem (by repeat (first | exact RowsIn.here | exact RowsIn.last | apply RowsIn.there | apply RowsIn.thereS)) _ (by omega)) | exact Sees.own (WRowsIn.mem (by repeat (first | exact WRowsIn.here | exact WRowsIn.last | apply WRowsIn.there | apply WRowsIn.thereS)) _ (by omega))) rfl) ?_
  refine VL.r (.inl rfl) rfl (by decide) (yr_len rfl Try.underlying22 rfl) ?_
  refine VL.r (.inl rfl) rfl (by decide) (yr_move rfl rfl) ?_
  refine VL.r (.inl rfl) rfl (by decide) (yr_int rfl rfl rfl (.inr (.inl ⟨rfl, wrap_in (by omega)⟩))) ?_
  refine VL.q (.inl rfl) rfl (by decide) (yq_callf rfl known98_Block (.cons rfl (.cons rfl .nil)) (fun w hw => c_l00Min)) ?_
  refine VL.new (.inl rfl) rfl (by decide) (yn_callf rfl known97_Block (.cons rfl (.cons rfl (.cons rfl .nil))) (fun w hw => (c_l07Block (fr := bi.toNat * 8) (cnt := min 8 (xss.length - bi.toNat * 8)) (by first | exact Sees.root (by assumption) w hw | exact Sees.own (by repeat (first | exact List.mem_cons_self | exact List.mem_append_left _ (by assumption) | apply List.mem_cons_of_mem | apply List.mem_append_right)) w hw) (by first | exact Sees.root (by assumption) w hw | exact Sees.own (by repeat (first | exact List.mem_cons_self | exact List.mem_append_left _ (by assumption) | apply List.mem_cons_of_mem | apply List.mem_append_right)) w hw) (by first | exact Rws.root (by assumption) hw | exact Rws.own (by repeat (first | exact RowsIn.here | exact RowsIn.last | apply RowsIn.there | apply RowsIn.thereS)) hw) (by first | exact Sees.root (by assumption) w hw | exact Sees.own (by repeat (first | exact List.mem_cons_self | exact List.mem_append_left _ (by assumption) | apply List.mem_cons_of_mem | apply List.mem_append_right)) w hw) (by first | exact Sees.root (by assumption) w hw | exact Sees.own (by repeat (first | exact List.mem_cons_self | exact List.mem_append_left _ (by assumption) | apply List.mem_cons_of_mem | apply List.mem_append_right)) w hw) (by omega) (by assumption) (by omega) (by omega) (by omega)))) ?_
  rintro ⟨b19, e19⟩
  refine VL.r (.inl rfl) rfl (by decide) (yr_extract rfl rfl rfl (by nofun)) ?_
  refine VL.r (.inl rfl) rfl (by decide) (yr_extract rfl rfl rfl (by nofun)) ?_
  refine VL.r (.inl rfl) rfl (by decide) (yr_assign rfl rfl) ?_
  refine VL.r (.inl rfl) rfl (by decide) (yr_assign rfl rfl) ?_
  refine VL.nil ?_
  refine VE.then_wp ?_
  refine V.ret ?_
  refine ret2 rfl rfl rfl (by nofun) (by nofun) (fun w1 hw => ?_)
  exact ⟨(b19, e19), rfl, hw.outs (List.Sublist.refl _)⟩

end Go.Proofs.Ytgeflnjjppgooaa.Q


namespace Go.Proofs.Ytgeflnjjppgooaa.Q
open Go.RowKit
set_option linter.unusedVariables false
set_option linter.unusedSimpArgs false
set_option maxRecDepth 20000
set_option maxHeartbeats 800000
attribute [local irreducible] wqList Wq

end Go.Proofs.Ytgeflnjjppgooaa.Q


namespace Go.Proofs.Ytgeflnjjppgooaa.Q
open Go.RowKit
set_option linter.unusedVariables false
set_option linter.unusedSimpArgs false
set_option maxRecDepth 20000
set_option maxHeartbeats 800000
attribute [local irreducible] wqList Wq

end Go.Proofs.Ytgeflnjjppgooaa.Q


namespace Go.Proofs.Ytgeflnjjppgooaa
open Go.RowKit

/-- The first i numbers of Y added to X's. -/
def addL (X Y : List Nat) : Nat → List Nat
  | 0 => X
  | i + 1 => (addL X Y i).set i (fop .add .f32 ((addL X Y i).getD i 0) (Y.getD i 0))
theorem addL_length (X Y : List Nat) : ∀ i, (addL X Y i).length = X.length
  | 0 => rfl
  | i + 1 => by simp [addL, addL_length X Y i]
def Cn (X : List Nat) : Prop := ∀ y ∈ X, Can .f32 y
theorem Cn.set {X : List Nat} (h : Cn X) (i : Nat) {v : Nat} (hv : Can .f32 v) : Cn (X.set i v) := fun y hy => by
  rcases List.mem_or_eq_of_mem_set hy with h1 | rfl
  · exact h y h1
  · exact hv
theorem Cn.addL {X : List Nat} (h : Cn X) (Y : List Nat) : ∀ i, Cn (addL X Y i)
  | 0 => h
  | i + 1 => (Cn.addL h Y i).set _ (can_fop _ _ _ _)
theorem cn_zeros (n : Nat) : Cn (List.replicate n 0) := fun y hy => by rw [List.eq_of_mem_replicate hy]; exact can_f0
def pcA (xss : List (List Nat)) (gs : List Nat) (n k : Nat) : List Nat := blockA xss gs (k * 8) (min 8 (xss.length - k * 8)) n
def pcB (xss : List (List Nat)) (ws gs : List Nat) (n k : Nat) : List Nat := blockB xss ws gs (k * 8) (min 8 (xss.length - k * 8)) n
def nmA (xss : List (List Nat)) (gs : List Nat) (n : Nat) : Nat → List Nat
  | 0 => List.replicate (n * n) 0
  | k + 1 => addL (nmA xss gs n k) (pcA xss gs n k) (n * n)
def nmB (xss : List (List Nat)) (ws gs : List Nat) (n : Nat) : Nat → List Nat
  | 0 => List.replicate n 0
  | k + 1 => addL (nmB xss ws gs n k) (pcB xss ws gs n k) n
theorem nmA_length (xss : List (List Nat)) (gs : List Nat) (n : Nat) : ∀ k, (nmA xss gs n k).length = n * n
  | 0 => by simp [nmA]
  | k + 1 => by rw [nmA, addL_length, nmA_length xss gs n k]
theorem nmB_length (xss : List (List Nat)) (ws gs : List Nat) (n : Nat) : ∀ k, (nmB xss ws gs n k).length = n
  | 0 => by simp [nmB]
  | k + 1 => by rw [nmB, addL_length, nmB_length xss ws gs n k]
theorem nmA_cn (xss : List (List Nat)) (gs : List Nat) (n : Nat) : ∀ k, Cn (nmA xss gs n k)
  | 0 => cn_zeros _
  | k + 1 => (nmA_cn xss gs n k).addL _ _
theorem nmB_cn (xss : List (List Nat)) (ws gs : List Nat) (n : Nat) : ∀ k, Cn (nmB xss ws gs n k)
  | 0 => cn_zeros _
  | k + 1 => (nmB_cn xss ws gs n k).addL _ _
/-- x on the first i places of the diagonal. -/
def dgA (X : List Nat) (x n : Nat) : Nat → List Nat
  | 0 => X
  | i + 1 => (dgA X x n i).set (i * n + i) (fop .add .f32 ((dgA X x n i).getD (i * n + i) 0) x)
theorem dgA_length (X : List Nat) (x n : Nat) : ∀ i, (dgA X x n i).length = X.length
  | 0 => rfl
  | i + 1 => by simp [dgA, dgA_length X x n i]
theorem Cn.dgA {X : List Nat} (h : Cn X) (x n : Nat) : ∀ i, Cn (dgA X x n i)
  | 0 => h
  | i + 1 => (Cn.dgA h x n i).set _ (can_fop _ _ _ _)
def normA (xss : List (List Nat)) (gs : List Nat) (x : Nat) : List Nat := dgA (nmA xss gs (xss.getD 0 []).length (blocksN xss.length)) x (xss.getD 0 []).length (xss.getD 0 []).length
def normB (xss : List (List Nat)) (ws gs : List Nat) : List Nat := nmB xss ws gs (xss.getD 0 []).length (blocksN xss.length)
theorem normA_length (xss : List (List Nat)) (gs : List Nat) (x : Nat) : (normA xss gs x).length = (xss.getD 0 []).length * (xss.getD 0 []).length := by rw [normA, dgA_length, nmA_length]
theorem normB_length (xss : List (List Nat)) (ws gs : List Nat) : (normB xss ws gs).length = (xss.getD 0 []).length := by rw [normB, nmB_length]
noncomputable def normOk (xss : List (List Nat)) (ws gs : List Nat) (x : Nat) : Bool := validD xss ws gs && least x
noncomputable def normAD (xss : List (List Nat)) (ws gs : List Nat) (x : Nat) : List Nat := if normOk xss ws gs x then normA xss gs x else []
noncomputable def normBD (xss : List (List Nat)) (ws gs : List Nat) (x : Nat) : List Nat := if normOk xss ws gs x then normB xss ws gs else []
noncomputable def shOk (xss : List (List Nat)) (ws gs : List Nat) (x : Nat) (n : Int) : Bool := normOk xss ws gs x && decide (1 ≤ n ∧ n ≤ 8)
noncomputable def shAD (xss : List (List Nat)) (ws gs : List Nat) (x : Nat) (n : Int) : List Nat := if shOk xss ws gs x n then normA xss gs x else []
noncomputable def shBD (xss : List (List Nat)) (ws gs : List Nat) (x : Nat) (n : Int) : List Nat := if shOk xss ws gs x n then normB xss ws gs else []
section
variable {xss : List (List Nat)} {ws gs : List Nat} {x : Nat} {n : Int}
theorem normAD_yes (h : normOk xss ws gs x = true) : normAD xss ws gs x = normA xss gs x := by simp [normAD, h]
theorem normBD_yes (h : normOk xss ws gs x = true) : normBD xss ws gs x = normB xss ws gs := by simp [normBD, h]
theorem normAD_no (h : normOk xss ws gs x = false) : normAD xss ws gs x = [] := by simp [normAD, h]
theorem normBD_no (h : normOk xss ws gs x = false) : normBD xss ws gs x = [] := by simp [normBD, h]
theorem shAD_yes (h : shOk xss ws gs x n = true) : shAD xss ws gs x n = normA xss gs x := by simp [shAD, h]
theorem shBD_yes (h : shOk xss ws gs x n = true) : shBD xss ws gs x n = normB xss ws gs := by simp [shBD, h]
theorem shAD_no (h : shOk xss ws gs x n = false) : shAD xss ws gs x n = [] := by simp [shAD, h]
theorem shBD_no (h : shOk xss ws gs x n = false) : shBD xss ws gs x n = [] := by simp [shBD, h]
/-- The count of workers does not tell. -/
theorem sh_norm (h : decide (1 ≤ n ∧ n ≤ 8) = true) : shOk xss ws gs x n = normOk xss ws gs x ∧ shAD xss ws gs x n = normAD xss ws gs x ∧ shBD xss ws gs x n = normBD xss ws gs x := by
  have e : shOk xss ws gs x n = normOk xss ws gs x := by rw [shOk, h, Bool.and_true]
  exact ⟨e, by rw [shAD, normAD, e], by rw [shBD, normBD, e]⟩
theorem cn_nil : Cn [] := fun y hy => by cases hy
theorem can_shAD (xss : List (List Nat)) (ws gs : List Nat) (x : Nat) (n : Int) : ∀ y ∈ shAD xss ws gs x n, Can .f32 y := by
  show Cn _
  unfold shAD; split
  · exact (nmA_cn _ _ _ _).dgA _ _ _
  · exact cn_nil
theorem can_shBD (xss : List (List Nat)) (ws gs : List Nat) (x : Nat) (n : Int) : ∀ y ∈ shBD xss ws gs x n, Can .f32 y := by
  show Cn _
  unfold shBD; split
  · exact nmB_cn _ _ _ _ _
  · exact cn_nil
theorem ok_valid (h : normOk xss ws gs x = true) : ValidP xss ws gs := valid_is (Bool.and_eq_true_iff.1 h).1
theorem sh_ok (h : shOk xss ws gs x n = true) : normOk xss ws gs x = true := (Bool.and_eq_true_iff.1 h).1
theorem length_shAD (xss : List (List Nat)) (ws gs : List Nat) (x : Nat) (n : Int) : (shAD xss ws gs x n).length ≤ 64 := by
  unfold shAD; split
  · rename_i h
    have hv := ok_valid (sh_ok h)
    rw [normA_length]
    exact Nat.mul_le_mul hv.2.2.2.2.2.2.2 hv.2.2.2.2.2.2.2
  · simp
theorem length_shBD (xss : List (List Nat)) (ws gs : List Nat) (x : Nat) (n : Int) : (shBD xss ws gs x n).length ≤ 8 := by
  unfold shBD; split
  · rename_i h
    have hv := ok_valid (sh_ok h)
    rw [normB_length]
    exact hv.2.2.2.2.2.2.2
  · simp
theorem one_ok : decide ((1 : Int) ≤ 1 ∧ (1 : Int) ≤ 8) = true := by decide
theorem can_normAD (xss : List (List Nat)) (ws gs : List Nat) (x : Nat) : ∀ y ∈ normAD xss ws gs x, Can .f32 y := by
  rw [← (sh_norm (xss := xss) (ws := ws) (gs := gs) (x := x) one_ok).2.1]; exact can_shAD _ _ _ _ _
theorem can_normBD (xss : List (List Nat)) (ws gs : List Nat) (x : Nat) : ∀ y ∈ normBD xss ws gs x, Can .f32 y := by
  rw [← (sh_norm (xss := xss) (ws := ws) (gs := gs) (x := x) one_ok).2.2]; exact can_shBD _ _ _ _ _
theorem length_normAD (xss : List (List Nat)) (ws gs : List Nat) (x : Nat) : (normAD xss ws gs x).length ≤ 64 := by
  rw [← (sh_norm (xss := xss) (ws := ws) (gs := gs) (x := x) one_ok).2.1]; exact length_shAD _ _ _ _ _
theorem length_normBD (xss : List (List Nat)) (ws gs : List Nat) (x : Nat) : (normBD xss ws gs x).length ≤ 8 := by
  rw [← (sh_norm (xss := xss) (ws := ws) (gs := gs) (x := x) one_ok).2.2]; exact length_shBD _ _ _ _ _
end
end Go.Proofs.Ytgeflnjjppgooaa


namespace Go.Proofs.Ytgeflnjjppgooaa.Q
open Go.RowKit
set_option linter.unusedVariables false
set_option linter.unusedSimpArgs false
set_option maxRecDepth 20000
set_option maxHeartbeats 800000
attribute [local irreducible] wqList Wq

theorem sz22_Normal : (Try.prog.info? 22).map (·.size) = some 1 := by kernel_rfl
theorem fb22_Normal : flatB Try.prog 22 = true := by kernel_rfl
theorem sz23_Normal : (Try.prog.info? 23).map (·.size) = some 1 := by kernel_rfl
theorem fb23_Normal : flatB Try.prog 23 = true := by kernel_rfl
theorem elt26_Normal : Elt Try.prog 26 [Value.float .f32 0] 4 := Elt.mk' (by kernel_rfl) (by decide)
theorem known70_Normal : Known Try.prog 70 := Known.mk' Try.func70 (by kernel_rfl)
theorem known71_Normal : Known Try.prog 71 := Known.mk' Try.func71 (by kernel_rfl)
theorem mixed_Normal : Try.prog.follows .mixedOrders = true := by kernel_rfl
theorem sz26_Normal : (Try.prog.info? 26).map (·.size) = some 1 := by kernel_rfl
theorem fb26_Normal : flatB Try.prog 26 = true := by kernel_rfl
theorem known33_Normal : Known Try.prog 33 := Known.mk' Try.func33 (by kernel_rfl)
theorem known34_Normal : Known Try.prog 34 := Known.mk' Try.func34 (by kernel_rfl)
theorem known35_Normal : Known Try.prog 35 := Known.mk' Try.func35 (by kernel_rfl)
theorem c_l07Normal [PhC] {w : World} {q : Option Addr} {a a1 a2 : Option Addr} {c c1 c2 : Nat} {f : Nat → Option Addr × Nat} {xss : List (List Nat)} {ws gs : List Nat} {x : Nat} (hQ : Cl w q [.slice a xss.length c, .slice a1 ws.length c1, .slice a2 gs.length c2]) (hA : Cl w a (hd f xss)) (hR : Rws w f xss) (hW : Cl w a1 (fl ws)) (hG : Cl w a2 (fl gs)) (hsz : bulk xss + ws.length + gs.length ≤ 1050000) (hval : ValidP xss ws gs) : New Try.prog 35 [.pointer (some (adr q 0)), .float .f32 x] w (fun p : Nat × Nat => .tuple #[.slice (some ⟨p.1, 0, none⟩) ((xss.getD 0 []).length * (xss.getD 0 []).length) ((xss.getD 0 []).length * (xss.getD 0 []).length), .slice (some ⟨p.2, 0, none⟩) (xss.getD 0 []).length (xss.getD 0 []).length]) (fun p => [⟨some ⟨p.2, 0, none⟩, fl (normB xss ws gs), (xss.getD 0 []).length * 1, 26⟩, ⟨some ⟨p.1, 0, none⟩, fl (normA xss gs x), ((xss.getD 0 []).length * (xss.getD 0 []).length) * 1, 26⟩]) := by
  refine New.enter Try.func35 rfl Try.ntmps35 (Nat.le_of_ble_eq_true rfl) ?_
  have hval2 := hval
  have hr : ∀ i, i < xss.length → (xss.getD i []).length ≤ 1050000 := fun i hi => by have := bulk_row hi; omega
  have hxl : xss.length ≤ bulk xss := by unfold bulk; omega
  obtain ⟨v1, v2, v3, v4, v5, v6, v7, v8⟩ := hval
  have hN : ∀ i, i < xss.length → (xss.getD i []).length = (xss.getD 0 []).length := fun i hi => (v6 i hi).1
  have hnn : (xss.getD 0 []).length * (xss.getD 0 []).length ≤ 64 := Nat.mul_le_mul v8 v8
  have hix : ∀ {j k : Nat}, j < (xss.getD 0 []).length → k < (xss.getD 0 []).length → j * (xss.getD 0 []).length + k < (xss.getD 0 []).length * (xss.getD 0 []).length := idx_lt
  have hbn : blocksN xss.length * 8 ≤ xss.length + 7 := by unfold blocksN; omega
  have hlA : ∀ k, (nmA xss gs (xss.getD 0 []).length k).length = (xss.getD 0 []).length * (xss.getD 0 []).length := nmA_length _ _ _
  have hlB : ∀ k, (nmB xss ws gs (xss.getD 0 []).length k).length = (xss.getD 0 []).length := nmB_length _ _ _ _
  refine V.seq ?_
  refine V.region ?_
  refine VL.r (.inl rfl) rfl (by decide) (yr_assign (u := .slice none 0 0) rfl rfl) ?_
  refine VL.r (.inl rfl) rfl (by decide) (yr_assign (u := .slice none 0 0) rfl rfl) ?_
  refine VL.nil ?_
  refine VE.then_wp ?_
  refine V.seq ?_
  refine V.region ?_
  refine VL.r (.inl rfl) rfl (by decide) (yr_move rfl rfl) ?_
  refine VL.r (.inl rfl) rfl (by decide) (yr_nilCheck rfl rfl) ?_
  refine VL.r (.inl rfl) rfl (by decide) (yr_fieldAddr rfl Try.underlying30 rfl rfl sz22_Normal (by decide) rfl) ?_
  refine VL.q (.inl rfl) rfl (by decide) (yq_load rfl fb22_Normal rfl (by first | exact Sees.root (by assumption) | exact Sees.own (by repeat (first | exact List.mem_cons_self | exact List.mem_append_left _ (by assumption) | apply List.mem_cons_of_mem | apply List.mem_append_right)) | exact Sees.root (hR _ (by omega)) | exact Sees.own (RowsIn.mem (by repeat (first | exact RowsIn.here | exact RowsIn.last | apply RowsIn.there | apply RowsIn.thereS)) _ (by omega)) | exact Sees.own (WRowsIn.mem (by repeat (first | exact WRowsIn.here | exact WRowsIn.last | apply WRowsIn.there | apply WRowsIn.thereS)) _ (by omega))) rfl) ?_
  refine VL.q (.inl rfl) rfl (by decide) (yq_idx (k := 0) rfl Try.underlying22 sz23_Normal rfl rfl (by first | exact Sees.root (by assumption) | exact Sees.own (by repeat (first | exact List.mem_cons_self | exact List.mem_append_left _ (by assumption) | apply List.mem_cons_of_mem | apply List.mem_append_right)) | exact Sees.root (hR _ (by omega)) | exact Sees.own (RowsIn.mem (by repeat (first | exact RowsIn.here | exact RowsIn.last | apply RowsIn.there | apply RowsIn.thereS)) _ (by omega)) | exact Sees.own (WRowsIn.mem (by repeat (first | exact WRowsIn.here | exact WRowsIn.last | apply WRowsIn.there | apply WRowsIn.thereS)) _ (by omega))) (by first | rfl | omega | (push_cast; rfl) | (push_cast; omega) | exact tmod_nat _ _) (by first | exact fl_length _ | exact hd_length _ _ | (rw [fl_length, addL_length]; first | exact hlA _ | exact hlB _) | (rw [fl_length, dgA_length]; exact hlA _) | (rw [fl_length]; first | exact blockA_length _ _ _ _ _ | exact blockB_length _ _ _ _ _ _)) (by first | omega | (rw [addL_length, hlA]; omega) | (rw [addL_length, hlB]; omega) | (rw [dgA_length, hlA]; omega) | (rw [blockA_length]; omega) | (rw [blockB_length]; omega))) ?_
  refine VL.q (.inl rfl) rfl (by decide) (yq_loadH rfl fb23_Normal rfl (by first | exact Sees.root (by assumption) | exact Sees.own (by repeat (first | exact List.mem_cons_self | exact List.mem_append_left _ (by assumption) | apply List.mem_cons_of_mem | apply List.mem_append_right)) | exact Sees.root (hR _ (by omega)) | exact Sees.own (RowsIn.mem (by repeat (first | exact RowsIn.here | exact RowsIn.last | apply RowsIn.there | apply RowsIn.thereS)) _ (by omega)) | exact Sees.own (WRowsIn.mem (by repeat (first | exact WRowsIn.here | exact WRowsIn.last | apply WRowsIn.there | apply WRowsIn.thereS)) _ (by omega))) (by first | omega | (rw [addL_length, hlA]; omega) | (rw [addL_length, hlB]; omega) | (rw [dgA_length, hlA]; omega) | (rw [blockA_length]; omega) | (rw [blockB_length]; omega))) ?_
  refine VL.r (.inl rfl) rfl (by decide) (yr_len rfl Try.underlying23 rfl) ?_
  refine VL.r (.inl rfl) rfl (by decide) (yr_assign rfl rfl) ?_
  refine VL.nil ?_
  refine VE.then_wp ?_
  refine V.seq ?_
  refine V.region ?_
  refine VL.r (.inl rfl) rfl (by decide) (yr_move rfl rfl) ?_
  refine VL.r (.inl rfl) rfl (by decide) (yr_move rfl rfl) ?_
  refine VL.r (.inl rfl) rfl (by decide) (yr_mulN (xss.getD 0 []).length (xss.getD 0 []).length rfl rfl rfl (by omega) (by omega) (Nat.le_trans (mul_small (by omega) (by omega)) (by decide))) ?_
  refine VL.new1 (.inl rfl) rfl (by decide) (yn_makeSlicez 1 rfl rfl Try.underlying23 elt26_Normal rfl rfl rfl (by omega) (by omega)) ?_
  intro b25
  refine VL.r (.inl rfl) rfl (by decide) (yr_assign rfl rfl) ?_
  refine VL.nil ?_
  refine VE.then_wp ?_
  refine V.seq ?_
  refine V.region ?_
  refine VL.r (.inl rfl) rfl (by decide) (yr_move rfl rfl) ?_
  refine VL.new1 (.inl rfl) rfl (by decide) (yn_makeSlicez 1 rfl rfl Try.underlying23 elt26_Normal rfl rfl rfl (by omega) (by omega)) ?_
  intro b27
  refine VL.r (.inl rfl) rfl (by decide) (yr_assign rfl rfl) ?_
  refine VL.nil ?_
  refine VE.then_wp ?_
  refine V.seq ?_
  refine V.seq ?_
  refine V.region ?_
  refine VL.r (.inl rfl) rfl (by decide) (yr_assign (u := .int .i64 0) rfl rfl) ?_
  refine VL.nil ?_
  refine VE.then_wp ?_
  refine V.block ?_
  refine V.loopc (G := Nat) [(0, _), (1, _), (6, _), (7, _), (8, _)] (fun (k : Nat) => k ≤ blocksN xss.length) (fun (k : Nat) => [⟨some ⟨b27, 0, none⟩, fl (nmB xss ws gs (xss.getD 0 []).length k), (xss.getD 0 []).length * 1, 26⟩, ⟨some ⟨b25, 0, none⟩, fl (nmA xss gs (xss.getD 0 []).length k), ((xss.getD 0 []).length * (xss.getD 0 []).length) * 1, 26⟩]) (fun (k : Nat) => [(9, .int .i64 (k : Int))]) (fun (k : Nat) => blocksN xss.length - k) 0 (.cons rfl (.cons rfl (.cons rfl (.cons rfl (.cons rfl .nil))))) (.cons rfl .nil) ?_ ?_ ?_
  · exact (fun w hw => by rw [fl_zeros, fl_zeros] at hw; exact hw)
  · exact (by omega)
  rintro k hk
  show V _ _ _ [⟨some ⟨b27, 0, none⟩, fl (nmB xss ws gs (xss.getD 0 []).length k), (xss.getD 0 []).length * 1, 26⟩, ⟨some ⟨b25, 0, none⟩, fl (nmA xss gs (xss.getD 0 []).length k), ((xss.getD 0 []).length * (xss.getD 0 []).length) * 1, 26⟩] ([(9, .int .i64 (k : Int))] ++ [(0, _), (1, _), (6, _), (7, _), (8, _)]) _ _
  refine V.seq ?_
  refine V.seq ?_
  refine V.region ?_
  refine VL.r (.inl rfl) rfl (by decide) (yr_move rfl rfl) ?_
  refine VL.r (.inl rfl) rfl (by decide) (yr_move rfl rfl) ?_
  refine VL.q (.inl rfl) rfl (by decide) (yq_callf rfl known70_Normal (.cons rfl .nil) (fun w hw => (c_l07Blocks (by first | exact Sees.root (by assumption) w hw | exact Sees.own (by repeat (first | exact List.mem_cons_self | exact List.mem_append_left _ (by assumption) | apply List.mem_cons_of_mem | apply List.mem_append_right)) w hw) (by omega)))) ?_
  refine VL.r (.inl rfl) rfl (by decide) (yr_icmp rfl (.inr (.inr (.inl rfl))) rfl rfl) ?_
  refine VL.nil ?_
  refine VE.then_wp ?_
  refine V.cond rfl (fun h1 => ?_) (fun h1 => ?_)
  · skip
    replace h1 := ic_lss h1
    refine V.skip ?_
    refine VE.then_wp ?_
    refine V.seq ?_
    refine V.block ?_
    refine V.seq ?_
    refine V.region ?_
    refine VL.r (.inl rfl) rfl (by decide) (yr_move rfl rfl) ?_
    refine VL.r (.inl rfl) rfl (by decide) (yr_move rfl rfl) ?_
    refine VL.new (.inl rfl) rfl (by decide) (yn_callf rfl known71_Normal (.cons rfl (.cons rfl .nil)) (fun w hw => (c_l07At (bi := (k : Int)) (by first | exact Sees.root (by assumption) w hw | exact Sees.own (by repeat (first | exact List.mem_cons_self | exact List.mem_append_left _ (by assumption) | apply List.mem_cons_of_mem | apply List.mem_append_right)) w hw) (by first | exact Sees.root (by assumption) w hw | exact Sees.own (by repeat (first | exact List.mem_cons_self | exact List.mem_append_left _ (by assumption) | apply List.mem_cons_of_mem | apply List.mem_append_right)) w hw) (by first | exact Rws.root (by assumption) hw | exact Rws.own (by repeat (first | exact RowsIn.here | exact RowsIn.last | apply RowsIn.there | apply RowsIn.thereS)) hw) (by first | exact Sees.root (by assumption) w hw | exact Sees.own (by repeat (first | exact List.mem_cons_self | exact List.mem_append_left _ (by assumption) | apply List.mem_cons_of_mem | apply List.mem_append_right)) w hw) (by first | exact Sees.root (by assumption) w hw | exact Sees.own (by repeat (first | exact List.mem_cons_self | exact List.mem_append_left _ (by assumption) | apply List.mem_cons_of_mem | apply List.mem_append_right)) w hw) (by omega) (by assumption) (by omega) (by omega)))) ?_
    rintro ⟨b37, e37⟩
    refine VL.r (.inl rfl) rfl (by decide) (yr_move rfl rfl) ?_
    refine VL.r (.inl rfl) rfl (by decide) (yr_extract rfl rfl rfl (by nofun)) ?_
    refine VL.r (.inl rfl) rfl (by decide) (yr_extract rfl rfl rfl (by nofun)) ?_
    refine VL.r (.inl rfl) rfl (by decide) (yr_assign rfl rfl) ?_
    refine VL.r (.inl rfl) rfl (by decide) (yr_assign rfl rfl) ?_
    refine VL.nil ?_
    refine VE.then_wp ?_
    refine V.seq ?_
    refine V.seq ?_
    refine V.region ?_
    refine VL.r (.inl rfl) rfl (by decide) (yr_move rfl rfl) ?_
    refine VL.r (.inl rfl) rfl (by decide) (yr_len rfl Try.underlying23 rfl) ?_
    refine VL.r (.inl rfl) rfl (by decide) (yr_move (u := .int .i64 0) rfl rfl) ?_
    refine VL.nil ?_
    refine VE.then_wp ?_
    refine V.block ?_
    refine V.loopc (G := Nat) [(0, _), (1, _), (6, _), (7, _), (8, _), (9, _), (10, _), (11, _), (41, _)] (fun (i : Nat) => i ≤ (xss.getD 0 []).length * (xss.getD 0 []).length) (fun (i : Nat) => [⟨some ⟨e37, 0, none⟩, fl (blockB xss ws gs (Int.toNat (k : Int) * 8) (min 8 (xss.length - Int.toNat (k : Int) * 8)) (xss.getD 0 []).length), (xss.getD 0 []).length * 1, 26⟩, ⟨some ⟨b37, 0, none⟩, fl (blockA xss gs (Int.toNat (k : Int) * 8) (min 8 (xss.length - Int.toNat (k : Int) * 8)) (xss.getD 0 []).length), ((xss.getD 0 []).length * (xss.getD 0 []).length) * 1, 26⟩, ⟨some ⟨b27, 0, none⟩, fl (nmB xss ws gs (xss.getD 0 []).length k), (xss.getD 0 []).length * 1, 26⟩, ⟨some ⟨b25, 0, none⟩, fl (addL (nmA xss gs (xss.getD 0 []).length k) (pcA xss gs (xss.getD 0 []).length k) i), ((xss.getD 0 []).length * (xss.getD 0 []).length) * 1, 26⟩]) (fun (i : Nat) => [(42, .int .i64 (i : Int))]) (fun (i : Nat) => (xss.getD 0 []).length * (xss.getD 0 []).length - i) 0 (.cons rfl (.cons rfl (.cons rfl (.cons rfl (.cons rfl (.cons rfl (.cons rfl (.cons rfl (.cons rfl .nil))))))))) (.cons rfl .nil) ?_ ?_ ?_
    · exact (fun w hw => hw)
    · exact (by omega)
    rintro i hi
    show V _ _ _ [⟨some ⟨e37, 0, none⟩, fl (blockB xss ws gs (Int.toNat (k : Int) * 8) (min 8 (xss.length - Int.toNat (k : Int) * 8)) (xss.getD 0 []).length), (xss.getD 0 []).length * 1, 26⟩, ⟨some ⟨b37, 0, none⟩, fl (blockA xss gs (Int.toNat (k : Int) * 8) (min 8 (xss.length - Int.toNat (k : Int) * 8)) (xss.getD 0 []).length), ((xss.getD 0 []).length * (xss.getD 0 []).length) * 1, 26⟩, ⟨some ⟨b27, 0, none⟩, fl (nmB xss ws gs (xss.getD 0 []).length k), (xss.getD 0 []).length * 1, 26⟩, ⟨some ⟨b25, 0, none⟩, fl (addL (nmA xss gs (xss.getD 0 []).length k) (pcA xss gs (xss.getD 0 []).length k) i), ((xss.getD 0 []).length * (xss.getD 0 []).length) * 1, 26⟩] ([(42, .int .i64 (i : Int))] ++ [(0, _), (1, _), (6, _), (7, _), (8, _), (9, _), (10, _), (11, _), (41, _)]) _ _
    refine V.seq ?_
    refine V.region ?_
    refine VL.r (.inl rfl) rfl (by decide) (yr_icmp rfl (.inr (.inr (.inl rfl))) rfl rfl) ?_
    refine VL.nil ?_
    refine VE.then_wp ?_
    refine V.seq ?_
    refine V.cond rfl (fun h2 => ?_) (fun h2 => ?_)
    · skip
      replace h2 := ic_lss h2
      refine V.skip ?_
      refine VE.then_wp ?_
      refine V.seq ?_
      refine V.block ?_
      refine V.seq ?_
      refine V.region ?_
      refine VL.r (.inl rfl) rfl (by decide) (yr_move rfl rfl) ?_
      refine VL.r (.inl rfl) rfl (by decide) (yr_assign rfl rfl) ?_
      refine VL.nil ?_
      refine VE.then_wp ?_
      refine V.draw [(0, 0), (1, 0), (2, 0), (3, 0), (4, 0), (5, 0), (6, 0), (7, 0), (8, 0), (9, 0), (10, 3)] mixed_Normal (by kernel_rfl) (by intro j o hj; simp at hj) ?_
      refine SW.r rfl (.inl rfl) rfl (by decide) (yr_move rfl rfl) ?_
      refine SW.r rfl (.inl rfl) rfl (by decide) (yr_move rfl rfl) ?_
      refine SW.q rfl (.inl rfl) rfl (by decide) (yq_idx (k := i) rfl Try.underlying23 sz26_Normal rfl rfl (by first | exact Sees.root (by assumption) | exact Sees.own (by repeat (first | exact List.mem_cons_self | exact List.mem_append_left _ (by assumption) | apply List.mem_cons_of_mem | apply List.mem_append_right)) | exact Sees.root (hR _ (by omega)) | exact Sees.own (RowsIn.mem (by repeat (first | exact RowsIn.here | exact RowsIn.last | apply RowsIn.there | apply RowsIn.thereS)) _ (by omega)) | exact Sees.own (WRowsIn.mem (by repeat (first | exact WRowsIn.here | exact WRowsIn.last | apply WRowsIn.there | apply WRowsIn.thereS)) _ (by omega))) (by first | rfl | omega | (push_cast; rfl) | (push_cast; omega) | exact tmod_nat _ _) (by first | exact fl_length _ | exact hd_length _ _ | (rw [fl_length, addL_length]; first | exact hlA _ | exact hlB _) | (rw [fl_length, dgA_length]; exact hlA _) | (rw [fl_length]; first | exact blockA_length _ _ _ _ _ | exact blockB_length _ _ _ _ _ _)) (by first | omega | (rw [addL_length, hlA]; omega) | (rw [addL_length, hlB]; omega) | (rw [dgA_length, hlA]; omega) | (rw [blockA_length]; omega) | (rw [blockB_length]; omega))) ?_
      refine SW.q rfl (.inl rfl) rfl (by decide) (yq_loadF rfl fb26_Normal rfl (by first | exact Sees.root (by assumption) | exact Sees.own (by repeat (first | exact List.mem_cons_self | exact List.mem_append_left _ (by assumption) | apply List.mem_cons_of_mem | apply List.mem_append_right)) | exact Sees.root (hR _ (by omega)) | exact Sees.own (RowsIn.mem (by repeat (first | exact RowsIn.here | exact RowsIn.last | apply RowsIn.there | apply RowsIn.thereS)) _ (by omega)) | exact Sees.own (WRowsIn.mem (by repeat (first | exact WRowsIn.here | exact WRowsIn.last | apply WRowsIn.there | apply WRowsIn.thereS)) _ (by omega))) (by first | omega | (rw [addL_length, hlA]; omega) | (rw [addL_length, hlB]; omega) | (rw [dgA_length, hlA]; omega) | (rw [blockA_length]; omega) | (rw [blockB_length]; omega))) ?_
      refine SW.r rfl (.inl rfl) rfl (by decide) (yr_move rfl rfl) ?_
      refine SW.r rfl (.inl rfl) rfl (by decide) (yr_move rfl rfl) ?_
      refine SW.q rfl (.inl rfl) rfl (by decide) (yq_idx (k := i) rfl Try.underlying23 sz26_Normal rfl rfl (by first | exact Sees.root (by assumption) | exact Sees.own (by repeat (first | exact List.mem_cons_self | exact List.mem_append_left _ (by assumption) | apply List.mem_cons_of_mem | apply List.mem_append_right)) | exact Sees.root (hR _ (by omega)) | exact Sees.own (RowsIn.mem (by repeat (first | exact RowsIn.here | exact RowsIn.last | apply RowsIn.there | apply RowsIn.thereS)) _ (by omega)) | exact Sees.own (WRowsIn.mem (by repeat (first | exact WRowsIn.here | exact WRowsIn.last | apply WRowsIn.there | apply WRowsIn.thereS)) _ (by omega))) (by first | rfl | omega | (push_cast; rfl) | (push_cast; omega) | exact tmod_nat _ _) (by first | exact fl_length _ | exact hd_length _ _ | (rw [fl_length, addL_length]; first | exact hlA _ | exact hlB _) | (rw [fl_length, dgA_length]; exact hlA _) | (rw [fl_length]; first | exact blockA_length _ _ _ _ _ | exact blockB_length _ _ _ _ _ _)) (by first | omega | (rw [addL_length, hlA]; omega) | (rw [addL_length, hlB]; omega) | (rw [dgA_length, hlA]; omega) | (rw [blockA_length]; omega) | (rw [blockB_length]; omega))) ?_
      refine SW.q rfl (.inl rfl) rfl (by decide) (yq_loadF rfl fb26_Normal rfl (by first | exact Sees.root (by assumption) | exact Sees.own (by repeat (first | exact List.mem_cons_self | exact List.mem_append_left _ (by assumption) | apply List.mem_cons_of_mem | apply List.mem_append_right)) | exact Sees.root (hR _ (by omega)) | exact Sees.own (RowsIn.mem (by repeat (first | exact RowsIn.here | exact RowsIn.last | apply RowsIn.there | apply RowsIn.thereS)) _ (by omega)) | exact Sees.own (WRowsIn.mem (by repeat (first | exact WRowsIn.here | exact WRowsIn.last | apply WRowsIn.there | apply WRowsIn.thereS)) _ (by omega))) (by first | omega | (rw [addL_length, hlA]; omega) | (rw [addL_length, hlB]; omega) | (rw [dgA_length, hlA]; omega) | (rw [blockA_length]; omega) | (rw [blockB_length]; omega))) ?_
      refine SW.r rfl (.inl rfl) rfl (by decide) (yr_float rfl (.inl rfl) rfl rfl) ?_
      refine SW.q rfl (.inl rfl) rfl (by decide) (yq_idx (k := i) rfl Try.underlying23 sz26_Normal rfl rfl (by first | exact Sees.root (by assumption) | exact Sees.own (by repeat (first | exact List.mem_cons_self | exact List.mem_append_left _ (by assumption) | apply List.mem_cons_of_mem | apply List.mem_append_right)) | exact Sees.root (hR _ (by omega)) | exact Sees.own (RowsIn.mem (by repeat (first | exact RowsIn.here | exact RowsIn.last | apply RowsIn.there | apply RowsIn.thereS)) _ (by omega)) | exact Sees.own (WRowsIn.mem (by repeat (first | exact WRowsIn.here | exact WRowsIn.last | apply WRowsIn.there | apply WRowsIn.thereS)) _ (by omega))) (by first | rfl | omega | (push_cast; rfl) | (push_cast; omega) | exact tmod_nat _ _) (by first | exact fl_length _ | exact hd_length _ _ | (rw [fl_length, addL_length]; first | exact hlA _ | exact hlB _) | (rw [fl_length, dgA_length]; exact hlA _) | (rw [fl_length]; first | exact blockA_length _ _ _ _ _ | exact blockB_length _ _ _ _ _ _)) (by first | omega | (rw [addL_length, hlA]; omega) | (rw [addL_length, hlB]; omega) | (rw [dgA_length, hlA]; omega) | (rw [blockA_length]; omega) | (rw [blockB_length]; omega))) ?_
      refine SW.s rfl (.inl rfl) rfl (yc_store rfl sz26_Normal rfl rfl (by repeat (first | exact UpdF.here | apply UpdF.there | apply UpdF.thereS)) (.inl ⟨rfl, rfl⟩) rfl (by rw [fl_length]; first | (rw [addL_length, hlA]; omega) | (rw [addL_length, hlB]; omega) | (rw [dgA_length, hlA]; omega)) (by decide) (fl_set _ _ _)) ?_
      rintro ⟨⟩
      refine SW.done ?_
      refine VE.block_normal ?_
      refine VE.then_wp ?_
      refine V.region ?_
      refine VL.r (.inl rfl) rfl (by decide) (yr_int rfl rfl rfl (.inl ⟨rfl, wrap_in (by omega)⟩)) ?_
      refine VL.r (.inl rfl) rfl (by decide) (yr_move rfl rfl) ?_
      refine VL.nil ?_
      refine VE.round (i + 1) ?_ ?_ ?_ ?_ ?_
      · exact (.cons rfl .nil)
      · exact (.cons rfl (.cons rfl (.cons rfl (.cons rfl (.cons rfl (.cons rfl (.cons rfl (.cons rfl (.cons rfl .nil)))))))))
      · exact (fun w hw => hw)
      · omega
      · (try dsimp only); omega
    · skip
      replace h2 := ic_lss' h2
      refine V.exit ?_
      refine VE.then_exit ?_
      refine VE.then_exit ?_
      refine VE.block_here ?_
      refine VE.then_wp ?_
      refine V.seq ?_
      refine V.region ?_
      refine VL.r (.inl rfl) rfl (by decide) (yr_move rfl rfl) ?_
      refine VL.r (.inl rfl) rfl (by decide) (yr_len rfl Try.underlying23 rfl) ?_
      refine VL.r (.inl rfl) rfl (by decide) (yr_move (u := .int .i64 0) rfl rfl) ?_
      refine VL.nil ?_
      refine VE.then_wp ?_
      refine V.block ?_
      refine V.loopc (G := Nat) [(0, _), (1, _), (6, _), (7, _), (8, _), (9, _), (11, _), (57, _)] (fun (i2 : Nat) => i2 ≤ (xss.getD 0 []).length) (fun (i2 : Nat) => [⟨some ⟨e37, 0, none⟩, fl (blockB xss ws gs (Int.toNat (k : Int) * 8) (min 8 (xss.length - Int.toNat (k : Int) * 8)) (xss.getD 0 []).length), (xss.getD 0 []).length * 1, 26⟩, ⟨some ⟨b37, 0, none⟩, fl (blockA xss gs (Int.toNat (k : Int) * 8) (min 8 (xss.length - Int.toNat (k : Int) * 8)) (xss.getD 0 []).length), ((xss.getD 0 []).length * (xss.getD 0 []).length) * 1, 26⟩, ⟨some ⟨b27, 0, none⟩, fl (addL (nmB xss ws gs (xss.getD 0 []).length k) (pcB xss ws gs (xss.getD 0 []).length k) i2), (xss.getD 0 []).length * 1, 26⟩, ⟨some ⟨b25, 0, none⟩, fl (nmA xss gs (xss.getD 0 []).length (k + 1)), ((xss.getD 0 []).length * (xss.getD 0 []).length) * 1, 26⟩]) (fun (i2 : Nat) => [(58, .int .i64 (i2 : Int))]) (fun (i2 : Nat) => (xss.getD 0 []).length - i2) 0 (.cons rfl (.cons rfl (.cons rfl (.cons rfl (.cons rfl (.cons rfl (.cons rfl (.cons rfl .nil)))))))) (.cons rfl .nil) ?_ ?_ ?_
      · exact (fun w hw => by rw [show i = (xss.getD 0 []).length * (xss.getD 0 []).length by omega] at hw; exact hw)
      · exact (by omega)
      rintro i2 hi2
      show V _ _ _ [⟨some ⟨e37, 0, none⟩, fl (blockB xss ws gs (Int.toNat (k : Int) * 8) (min 8 (xss.length - Int.toNat (k : Int) * 8)) (xss.getD 0 []).length), (xss.getD 0 []).length * 1, 26⟩, ⟨some ⟨b37, 0, none⟩, fl (blockA xss gs (Int.toNat (k : Int) * 8) (min 8 (xss.length - Int.toNat (k : Int) * 8)) (xss.getD 0 []).length), ((xss.getD 0 []).length * (xss.getD 0 []).length) * 1, 26⟩, ⟨some ⟨b27, 0, none⟩, fl (addL (nmB xss ws gs (xss.getD 0 []).length k) (pcB xss ws gs (xss.getD 0 []).length k) i2), (xss.getD 0 []).length * 1, 26⟩, ⟨some ⟨b25, 0, none⟩, fl (nmA xss gs (xss.getD 0 []).length (k + 1)), ((xss.getD 0 []).length * (xss.getD 0 []).length) * 1, 26⟩] ([(58, .int .i64 (i2 : Int))] ++ [(0, _), (1, _), (6, _), (7, _), (8, _), (9, _), (11, _), (57, _)]) _ _
      refine V.seq ?_
      refine V.region ?_
      refine VL.r (.inl rfl) rfl (by decide) (yr_icmp rfl (.inr (.inr (.inl rfl))) rfl rfl) ?_
      refine VL.nil ?_
      refine VE.then_wp ?_
      refine V.seq ?_
      refine V.cond rfl (fun h3 => ?_) (fun h3 => ?_)
      · skip
        replace h3 := ic_lss h3
        refine V.skip ?_
        refine VE.then_wp ?_
        refine V.seq ?_
        refine V.block ?_
        refine V.seq ?_
        refine V.region ?_
        refine VL.r (.inl rfl) rfl (by decide) (yr_move rfl rfl) ?_
        refine VL.r (.inl rfl) rfl (by decide) (yr_assign rfl rfl) ?_
        refine VL.nil ?_
        refine VE.then_wp ?_
        refine V.draw [(0, 0), (1, 0), (2, 0), (3, 0), (4, 0), (5, 0), (6, 0), (7, 0), (8, 0), (9, 0), (10, 3)] mixed_Normal (by kernel_rfl) (by intro j o hj; simp at hj) ?_
        refine SW.r rfl (.inl rfl) rfl (by decide) (yr_move rfl rfl) ?_
        refine SW.r rfl (.inl rfl) rfl (by decide) (yr_move rfl rfl) ?_
        refine SW.q rfl (.inl rfl) rfl (by decide) (yq_idx (k := i2) rfl Try.underlying23 sz26_Normal rfl rfl (by first | exact Sees.root (by assumption) | exact Sees.own (by repeat (first | exact List.mem_cons_self | exact List.mem_append_left _ (by assumption) | apply List.mem_cons_of_mem | apply List.mem_append_right)) | exact Sees.root (hR _ (by omega)) | exact Sees.own (RowsIn.mem (by repeat (first | exact RowsIn.here | exact RowsIn.last | apply RowsIn.there | apply RowsIn.thereS)) _ (by omega)) | exact Sees.own (WRowsIn.mem (by repeat (first | exact WRowsIn.here | exact WRowsIn.last | apply WRowsIn.there | apply WRowsIn.thereS)) _ (by omega))) (by first | rfl | omega | (push_cast; rfl) | (push_cast; omega) | exact tmod_nat _ _) (by first | exact fl_length _ | exact hd_length _ _ | (rw [fl_length, addL_length]; first | exact hlA _ | exact hlB _) | (rw [fl_length, dgA_length]; exact hlA _) | (rw [fl_length]; first | exact blockA_length _ _ _ _ _ | exact blockB_length _ _ _ _ _ _)) (by first | omega | (rw [addL_length, hlA]; omega) | (rw [addL_length, hlB]; omega) | (rw [dgA_length, hlA]; omega) | (rw [blockA_length]; omega) | (rw [blockB_length]; omega))) ?_
        refine SW.q rfl (.inl rfl) rfl (by decide) (yq_loadF rfl fb26_Normal rfl (by first | exact Sees.root (by assumption) | exact Sees.own (by repeat (first | exact List.mem_cons_self | exact List.mem_append_left _ (by assumption) | apply List.mem_cons_of_mem | apply List.mem_append_right)) | exact Sees.root (hR _ (by omega)) | exact Sees.own (RowsIn.mem (by repeat (first | exact RowsIn.here | exact RowsIn.last | apply RowsIn.there | apply RowsIn.thereS)) _ (by omega)) | exact Sees.own (WRowsIn.mem (by repeat (first | exact WRowsIn.here | exact WRowsIn.last | apply WRowsIn.there | apply WRowsIn.thereS)) _ (by omega))) (by first | omega | (rw [addL_length, hlA]; omega) | (rw [addL_length, hlB]; omega) | (rw [dgA_length, hlA]; omega) | (rw [blockA_length]; omega) | (rw [blockB_length]; omega))) ?_
        refine SW.r rfl (.inl rfl) rfl (by decide) (yr_move rfl rfl) ?_
        refine SW.r rfl (.inl rfl) rfl (by decide) (yr_move rfl rfl) ?_
        refine SW.q rfl (.inl rfl) rfl (by decide) (yq_idx (k := i2) rfl Try.underlying23 sz26_Normal rfl rfl (by first | exact Sees.root (by assumption) | exact Sees.own (by repeat (first | exact List.mem_cons_self | exact List.mem_append_left _ (by assumption) | apply List.mem_cons_of_mem | apply List.mem_append_right)) | exact Sees.root (hR _ (by omega)) | exact Sees.own (RowsIn.mem (by repeat (first | exact RowsIn.here | exact RowsIn.last | apply RowsIn.there | apply RowsIn.thereS)) _ (by omega)) | exact Sees.own (WRowsIn.mem (by repeat (first | exact WRowsIn.here | exact WRowsIn.last | apply WRowsIn.there | apply WRowsIn.thereS)) _ (by omega))) (by first | rfl | omega | (push_cast; rfl) | (push_cast; omega) | exact tmod_nat _ _) (by first | exact fl_length _ | exact hd_length _ _ | (rw [fl_length, addL_length]; first | exact hlA _ | exact hlB _) | (rw [fl_length, dgA_length]; exact hlA _) | (rw [fl_length]; first | exact blockA_length _ _ _ _ _ | exact blockB_length _ _ _ _ _ _)) (by first | omega | (rw [addL_length, hlA]; omega) | (rw [addL_length, hlB]; omega) | (rw [dgA_length, hlA]; omega) | (rw [blockA_length]; omega) | (rw [blockB_length]; omega))) ?_
        refine SW.q rfl (.inl rfl) rfl (by decide) (yq_loadF rfl fb26_Normal rfl (by first | exact Sees.root (by assumption) | exact Sees.own (by repeat (first | exact List.mem_cons_self | exact List.mem_append_left _ (by assumption) | apply List.mem_cons_of_mem | apply List.mem_append_right)) | exact Sees.root (hR _ (by omega)) | exact Sees.own (RowsIn.mem (by repeat (first | exact RowsIn.here | exact RowsIn.last | apply RowsIn.there | apply RowsIn.thereS)) _ (by omega)) | exact Sees.own (WRowsIn.mem (by repeat (first | exact WRowsIn.here | exact WRowsIn.last | apply WRowsIn.there | apply WRowsIn.thereS)) _ (by omega))) (by first | omega | (rw [addL_length, hlA]; omega) | (rw [addL_length, hlB]; omega) | (rw [dgA_length, hlA]; omega) | (rw [blockA_length]; omega) | (rw [blockB_length]; omega))) ?_
        refine SW.r rfl (.inl rfl) rfl (by decide) (yr_float rfl (.inl rfl) rfl rfl) ?_
        refine SW.q rfl (.inl rfl) rfl (by decide) (yq_idx (k := i2) rfl Try.underlying23 sz26_Normal rfl rfl (by first | exact Sees.root (by assumption) | exact Sees.own (by repeat (first | exact List.mem_cons_self | exact List.mem_append_left _ (by assumption) | apply List.mem_cons_of_mem | apply List.mem_append_right)) | exact Sees.root (hR _ (by omega)) | exact Sees.own (RowsIn.mem (by repeat (first | exact RowsIn.here | exact RowsIn.last | apply RowsIn.there | apply RowsIn.thereS)) _ (by omega)) | exact Sees.own (WRowsIn.mem (by repeat (first | exact WRowsIn.here | exact WRowsIn.last | apply WRowsIn.there | apply WRowsIn.thereS)) _ (by omega))) (by first | rfl | omega | (push_cast; rfl) | (push_cast; omega) | exact tmod_nat _ _) (by first | exact fl_length _ | exact hd_length _ _ | (rw [fl_length, addL_length]; first | exact hlA _ | exact hlB _) | (rw [fl_length, dgA_length]; exact hlA _) | (rw [fl_length]; first | exact blockA_length _ _ _ _ _ | exact blockB_length _ _ _ _ _ _)) (by first | omega | (rw [addL_length, hlA]; omega) | (rw [addL_length, hlB]; omega) | (rw [dgA_length, hlA]; omega) | (rw [blockA_length]; omega) | (rw [blockB_length]; omega))) ?_
        refine SW.s rfl (.inl rfl) rfl (yc_store rfl sz26_Normal rfl rfl (by repeat (first | exact UpdF.here | apply UpdF.there | apply UpdF.thereS)) (.inl ⟨rfl, rfl⟩) rfl (by rw [fl_length]; first | (rw [addL_length, hlA]; omega) | (rw [addL_length, hlB]; omega) | (rw [dgA_length, hlA]; omega)) (by decide) (fl_set _ _ _)) ?_
        rintro ⟨⟩
        refine SW.done ?_
        refine VE.block_normal ?_
        refine VE.then_wp ?_
        refine V.region ?_
        refine VL.r (.inl rfl) rfl (by decide) (yr_int rfl rfl rfl (.inl ⟨rfl, wrap_in (by omega)⟩)) ?_
        refine VL.r (.inl rfl) rfl (by decide) (yr_move rfl rfl) ?_
        refine VL.nil ?_
        refine VE.round (i2 + 1) ?_ ?_ ?_ ?_ ?_
        · exact (.cons rfl .nil)
        · exact (.cons rfl (.cons rfl (.cons rfl (.cons rfl (.cons rfl (.cons rfl (.cons rfl (.cons rfl .nil))))))))
        · exact (fun w hw => hw)
        · omega
        · (try dsimp only); omega
      · skip
        replace h3 := ic_lss' h3
        refine V.exit ?_
        refine VE.then_exit ?_
        refine VE.then_exit ?_
        refine VE.block_here ?_
        refine VE.block_normal ?_
        refine VE.then_wp ?_
        refine V.region ?_
        refine VL.r (.inl rfl) rfl (by decide) (yr_move rfl rfl) ?_
        refine VL.r (.inl rfl) rfl (by decide) (yr_int rfl rfl rfl (.inl ⟨rfl, wrap_in (by omega)⟩)) ?_
        refine VL.r (.inl rfl) rfl (by decide) (yr_assign rfl rfl) ?_
        refine VL.nil ?_
        refine VE.round (k + 1) ?_ ?_ ?_ ?_ ?_
        · exact (.cons rfl .nil)
        · exact (.cons rfl (.cons rfl (.cons rfl (.cons rfl (.cons rfl .nil)))))
        · exact (fun w hw => by rw [show i2 = (xss.getD 0 []).length by omega] at hw; exact hw.sub ((List.Sublist.refl _).cons _ |>.cons _))
        · omega
        · (try dsimp only); omega
  · skip
    replace h1 := ic_lss' h1
    refine V.exit ?_
    refine VE.then_exit ?_
    refine VE.then_exit ?_
    refine VE.block_here ?_
    refine VE.then_wp ?_
    refine V.seq ?_
    refine V.seq ?_
    refine V.region ?_
    refine VL.r (.inl rfl) rfl (by decide) (yr_assign (u := .int .i64 0) rfl rfl) ?_
    refine VL.nil ?_
    refine VE.then_wp ?_
    refine V.block ?_
    refine V.loopc (G := Nat) [(1, _), (6, _), (7, _), (8, _)] (fun (j : Nat) => j ≤ (xss.getD 0 []).length) (fun (j : Nat) => [⟨some ⟨b27, 0, none⟩, fl (nmB xss ws gs (xss.getD 0 []).length (blocksN xss.length)), (xss.getD 0 []).length * 1, 26⟩, ⟨some ⟨b25, 0, none⟩, fl (dgA (nmA xss gs (xss.getD 0 []).length (blocksN xss.length)) x (xss.getD 0 []).length j), ((xss.getD 0 []).length * (xss.getD 0 []).length) * 1, 26⟩]) (fun (j : Nat) => [(14, .int .i64 (j : Int))]) (fun (j : Nat) => (xss.getD 0 []).length - j) 0 (.cons rfl (.cons rfl (.cons rfl (.cons rfl .nil)))) (.cons rfl .nil) ?_ ?_ ?_
    · exact (fun w hw => by rw [show k = blocksN xss.length by omega] at hw; exact hw)
    · exact (by omega)
    rintro j hj
    show V _ _ _ [⟨some ⟨b27, 0, none⟩, fl (nmB xss ws gs (xss.getD 0 []).length (blocksN xss.length)), (xss.getD 0 []).length * 1, 26⟩, ⟨some ⟨b25, 0, none⟩, fl (dgA (nmA xss gs (xss.getD 0 []).length (blocksN xss.length)) x (xss.getD 0 []).length j), ((xss.getD 0 []).length * (xss.getD 0 []).length) * 1, 26⟩] ([(14, .int .i64 (j : Int))] ++ [(1, _), (6, _), (7, _), (8, _)]) _ _
    have hjj := fun (h : j < (xss.getD 0 []).length) => hix h h
    refine V.seq ?_
    refine V.seq ?_
    refine V.region ?_
    refine VL.r (.inl rfl) rfl (by decide) (yr_move rfl rfl) ?_
    refine VL.r (.inl rfl) rfl (by decide) (yr_move rfl rfl) ?_
    refine VL.r (.inl rfl) rfl (by decide) (yr_icmp rfl (.inr (.inr (.inl rfl))) rfl rfl) ?_
    refine VL.nil ?_
    refine VE.then_wp ?_
    refine V.cond rfl (fun h4 => ?_) (fun h4 => ?_)
    · skip
      replace h4 := ic_lss h4
      refine V.skip ?_
      refine VE.then_wp ?_
      refine V.seq ?_
      refine V.block ?_
      refine V.region ?_
      refine VL.r (.inl rfl) rfl (by decide) (yr_move rfl rfl) ?_
      refine VL.r (.inl rfl) rfl (by decide) (yr_move rfl rfl) ?_
      refine VL.r (.inl rfl) rfl (by decide) (yr_move rfl rfl) ?_
      refine VL.r (.inl rfl) rfl (by decide) (yr_mulN j (xss.getD 0 []).length rfl rfl rfl (by omega) (by omega) (Nat.le_trans (mul_small (by omega) (by omega)) (by decide))) ?_
      refine VL.r (.inl rfl) rfl (by decide) (yr_move rfl rfl) ?_
      refine VL.r (.inl rfl) rfl (by decide) (yr_int rfl rfl rfl (.inl ⟨rfl, wrap_in (by omega)⟩)) ?_
      refine VL.q (.inl rfl) rfl (by decide) (yq_idx (k := ((j * (xss.getD 0 []).length) + j)) rfl Try.underlying23 sz26_Normal rfl rfl (by first | exact Sees.root (by assumption) | exact Sees.own (by repeat (first | exact List.mem_cons_self | exact List.mem_append_left _ (by assumption) | apply List.mem_cons_of_mem | apply List.mem_append_right)) | exact Sees.root (hR _ (by omega)) | exact Sees.own (RowsIn.mem (by repeat (first | exact RowsIn.here | exact RowsIn.last | apply RowsIn.there | apply RowsIn.thereS)) _ (by omega)) | exact Sees.own (WRowsIn.mem (by repeat (first | exact WRowsIn.here | exact WRowsIn.last | apply WRowsIn.there | apply WRowsIn.thereS)) _ (by omega))) (by first | rfl | omega | (push_cast; rfl) | (push_cast; omega) | exact tmod_nat _ _) (by first | exact fl_length _ | exact hd_length _ _ | (rw [fl_length, addL_length]; first | exact hlA _ | exact hlB _) | (rw [fl_length, dgA_length]; exact hlA _) | (rw [fl_length]; first | exact blockA_length _ _ _ _ _ | exact blockB_length _ _ _ _ _ _)) (by first | omega | (rw [addL_length, hlA]; omega) | (rw [addL_length, hlB]; omega) | (rw [dgA_length, hlA]; omega) | (rw [blockA_length]; omega) | (rw [blockB_length]; omega))) ?_
      refine VL.q (.inl rfl) rfl (by decide) (yq_loadF rfl fb26_Normal rfl (by first | exact Sees.root (by assumption) | exact Sees.own (by repeat (first | exact List.mem_cons_self | exact List.mem_append_left _ (by assumption) | apply List.mem_cons_of_mem | apply List.mem_append_right)) | exact Sees.root (hR _ (by omega)) | exact Sees.own (RowsIn.mem (by repeat (first | exact RowsIn.here | exact RowsIn.last | apply RowsIn.there | apply RowsIn.thereS)) _ (by omega)) | exact Sees.own (WRowsIn.mem (by repeat (first | exact WRowsIn.here | exact WRowsIn.last | apply WRowsIn.there | apply WRowsIn.thereS)) _ (by omega))) (by first | omega | (rw [addL_length, hlA]; omega) | (rw [addL_length, hlB]; omega) | (rw [dgA_length, hlA]; omega) | (rw [blockA_length]; omega) | (rw [blockB_length]; omega))) ?_
      refine VL.r (.inl rfl) rfl (by decide) (yr_move rfl rfl) ?_
      refine VL.r (.inl rfl) rfl (by decide) (yr_float rfl (.inl rfl) rfl rfl) ?_
      refine VL.q (.inl rfl) rfl (by decide) (yq_idx (k := ((j * (xss.getD 0 []).length) + j)) rfl Try.underlying23 sz26_Normal rfl rfl (by first | exact Sees.root (by assumption) | exact Sees.own (by repeat (first | exact List.mem_cons_self | exact List.mem_append_left _ (by assumption) | apply List.mem_cons_of_mem | apply List.mem_append_right)) | exact Sees.root (hR _ (by omega)) | exact Sees.own (RowsIn.mem (by repeat (first | exact RowsIn.here | exact RowsIn.last | apply RowsIn.there | apply RowsIn.thereS)) _ (by omega)) | exact Sees.own (WRowsIn.mem (by repeat (first | exact WRowsIn.here | exact WRowsIn.last | apply WRowsIn.there | apply WRowsIn.thereS)) _ (by omega))) (by first | rfl | omega | (push_cast; rfl) | (push_cast; omega) | exact tmod_nat _ _) (by first | exact fl_length _ | exact hd_length _ _ | (rw [fl_length, addL_length]; first | exact hlA _ | exact hlB _) | (rw [fl_length, dgA_length]; exact hlA _) | (rw [fl_length]; first | exact blockA_length _ _ _ _ _ | exact blockB_length _ _ _ _ _ _)) (by first | omega | (rw [addL_length, hlA]; omega) | (rw [addL_length, hlB]; omega) | (rw [dgA_length, hlA]; omega) | (rw [blockA_length]; omega) | (rw [blockB_length]; omega))) ?_
      refine VL.s (.inl rfl) rfl (yc_store rfl sz26_Normal rfl rfl (by repeat (first | exact UpdF.here | apply UpdF.there | apply UpdF.thereS)) (.inl ⟨rfl, rfl⟩) rfl (by rw [fl_length]; first | (rw [addL_length, hlA]; omega) | (rw [addL_length, hlB]; omega) | (rw [dgA_length, hlA]; omega)) (by decide) (fl_set _ _ _)) ?_
      rintro ⟨⟩
      refine VL.nil ?_
      refine VE.block_normal ?_
      refine VE.then_wp ?_
      refine V.region ?_
      refine VL.r (.inl rfl) rfl (by decide) (yr_move rfl rfl) ?_
      refine VL.r (.inl rfl) rfl (by decide) (yr_int rfl rfl rfl (.inl ⟨rfl, wrap_in (by omega)⟩)) ?_
      refine VL.r (.inl rfl) rfl (by decide) (yr_assign rfl rfl) ?_
      refine VL.nil ?_
      refine VE.round (j + 1) ?_ ?_ ?_ ?_ ?_
      · exact (.cons rfl .nil)
      · exact (.cons rfl (.cons rfl (.cons rfl (.cons rfl .nil))))
      · exact (fun w hw => hw)
      · omega
      · (try dsimp only); omega
    · skip
      replace h4 := ic_lss' h4
      refine V.exit ?_
      refine VE.then_exit ?_
      refine VE.then_exit ?_
      refine VE.block_here ?_
      refine VE.then_wp ?_
      refine V.seq ?_
      refine V.region ?_
      refine VL.r (.inl rfl) rfl (by decide) (yr_move rfl rfl) ?_
      refine VL.r (.inl rfl) rfl (by decide) (yr_move rfl rfl) ?_
      refine VL.r (.inl rfl) rfl (by decide) (yr_assign rfl rfl) ?_
      refine VL.r (.inl rfl) rfl (by decide) (yr_assign rfl rfl) ?_
      refine VL.nil ?_
      refine VE.then_wp ?_
      refine V.ret ?_
      refine ret2 rfl rfl rfl (by nofun) (by nofun) (fun w1 hw => ?_)
      obtain rfl : j = (xss.getD 0 []).length := by omega
      exact ⟨(b25, b27), rfl, hw.outs (List.Sublist.refl _)⟩

theorem c_specNorm [PhC] {w : World} {a a1 a2 : Option Addr} {c c1 c2 : Nat} {f : Nat → Option Addr × Nat} {xss : List (List Nat)} {ws gs : List Nat} {x : Nat} (hA : Cl w a (hd f xss)) (hR : Rws w f xss) (hW : Cl w a1 (fl ws)) (hG : Cl w a2 (fl gs)) (hsz : bulk xss + ws.length + gs.length ≤ 1050000) : New Try.prog 8 [.agg #[.slice a xss.length c, .slice a1 ws.length c1, .slice a2 gs.length c2], .float .f32 x] w (fun p : (Option Addr × Nat) × (Option Addr × Nat) => .tuple #[.slice p.1.1 (normAD xss ws gs x).length p.1.2, .slice p.2.1 (normBD xss ws gs x).length p.2.2, .bool (normOk xss ws gs x)]) (fun p => [⟨p.2.1, fl (normBD xss ws gs x), p.2.2 * 1, 26⟩, ⟨p.1.1, fl (normAD xss ws gs x), p.1.2 * 1, 26⟩]) := by
  refine New.enter Try.func8 rfl Try.ntmps8 (Nat.le_of_ble_eq_true rfl) ?_
  have hr : ∀ i, i < xss.length → (xss.getD i []).length ≤ 1050000 := fun i hi => by have := bulk_row hi; omega
  have hxl : xss.length ≤ bulk xss := by unfold bulk; omega
  refine V.seq ?_
  refine V.region ?_
  refine VL.new1 (.inl rfl) rfl (by decide) (yn_box rfl rfl (.inr ⟨rfl, rfl⟩)) ?_
  intro b2
  refine VL.r (.inl rfl) rfl (by decide) (yr_assign (u := .slice none 0 0) rfl rfl) ?_
  refine VL.r (.inl rfl) rfl (by decide) (yr_assign (u := .slice none 0 0) rfl rfl) ?_
  refine VL.r (.inl rfl) rfl (by decide) (yr_assign (u := .bool false) rfl rfl) ?_
  refine VL.nil ?_
  refine VE.then_wp ?_
  refine V.seq ?_
  refine V.seq ?_
  refine V.region ?_
  refine VL.q (.inl rfl) rfl (by decide) (yq_callf rfl known33_Normal (.cons rfl .nil) (fun w hw => (c_l07Is (by first | exact Sees.root (by assumption) w hw | exact Sees.own (by repeat (first | exact List.mem_cons_self | exact List.mem_append_left _ (by assumption) | apply List.mem_cons_of_mem | apply List.mem_append_right)) w hw) (by first | exact Sees.root (by assumption) w hw | exact Sees.own (by repeat (first | exact List.mem_cons_self | exact List.mem_append_left _ (by assumption) | apply List.mem_cons_of_mem | apply List.mem_append_right)) w hw) (by first | exact Rws.root (by assumption) hw | exact Rws.own (by repeat (first | exact RowsIn.here | exact RowsIn.last | apply RowsIn.there | apply RowsIn.thereS)) hw) (by first | exact Sees.root (by assumption) w hw | exact Sees.own (by repeat (first | exact List.mem_cons_self | exact List.mem_append_left _ (by assumption) | apply List.mem_cons_of_mem | apply List.mem_append_right)) w hw) (by first | exact Sees.root (by assumption) w hw | exact Sees.own (by repeat (first | exact List.mem_cons_self | exact List.mem_append_left _ (by assumption) | apply List.mem_cons_of_mem | apply List.mem_append_right)) w hw) (by omega)))) ?_
  refine VL.r (.inl rfl) rfl (by decide) (yr_not rfl rfl) ?_
  refine VL.r (.inl rfl) rfl (by decide) (yr_move rfl rfl) ?_
  refine VX.split 11 _ rfl (fun h1 => ?_) (fun h1 => ?_)
  · skip
    replace h1 := bnot_t h1
    refine VL.no rfl rfl rfl rfl rfl (by decide) ?_
    refine VL.no rfl rfl rfl rfl rfl (by decide) ?_
    refine VL.no rfl rfl rfl rfl rfl (by decide) ?_
    refine VL.r (.inl rfl) rfl (by decide) (yr_pick_t (u := .bool true) rfl rfl rfl) ?_
    refine VL.nil ?_
    refine VE.then_wp ?_
    refine V.condT rfl ?_
    refine V.seq ?_
    refine V.region ?_
    refine VL.r (.inl rfl) rfl (by decide) (yr_assign (u := .slice none 0 0) rfl rfl) ?_
    refine VL.r (.inl rfl) rfl (by decide) (yr_assign (u := .slice none 0 0) rfl rfl) ?_
    refine VL.r (.inl rfl) rfl (by decide) (yr_assign (u := .bool false) rfl rfl) ?_
    refine VL.nil ?_
    refine VE.then_wp ?_
    refine V.ret ?_
    refine VE.then_ret ?_
    refine ret3 rfl rfl rfl rfl (by nofun) (by nofun) (by nofun) (fun w1 hw => ?_)
    first
      | exact ⟨((some ⟨b18, 0, none⟩, (xss.getD 0 []).length * (xss.getD 0 []).length), (some ⟨e18, 0, none⟩, (xss.getD 0 []).length)), by rw [normAD_yes hs, normBD_yes hs, hs, normA_length, normB_length] <;> rfl, by rw [normAD_yes hs, normBD_yes hs]; exact hw.outs (((List.nil_sublist _).cons_cons _).cons_cons _)⟩
      | (have hs : normOk xss ws gs x = false := by first | (simp only [normOk, *, Bool.false_and, Bool.and_false, Bool.and_true]; done) | (simp only [normOk, least, *, Bool.false_and, Bool.and_false, Bool.and_true]; done)
         exact ⟨((none, 0), (none, 0)), by rw [normAD_no hs, normBD_no hs, hs]; rfl, hw.below, by rw [normAD_no hs, normBD_no hs]; simp [fl, Ent.at], by simp [Ent.apart]⟩)
  · skip
    replace h1 := bnot_f h1
    refine VL.r (.inr ⟨_, _, _, rfl, rfl, rfl⟩) rfl (by decide) (yr_move rfl rfl) ?_
    refine VL.q (.inr ⟨_, _, _, rfl, rfl, rfl⟩) rfl (by decide) (yq_callf rfl known34_Normal (.cons rfl .nil) (fun w hw => c_l03Least _)) ?_
    refine VL.r (.inr ⟨_, _, _, rfl, rfl, rfl⟩) rfl (by decide) (yr_not rfl rfl) ?_
    refine VL.r (.inl rfl) rfl (by decide) (yr_pick_f rfl rfl rfl) ?_
    refine VL.nil ?_
    refine VE.then_wp ?_
    refine V.cond rfl (fun h3 => ?_) (fun h3 => ?_)
    · skip
      replace h3 := bnot_t h3
      refine V.seq ?_
      refine V.region ?_
      refine VL.r (.inl rfl) rfl (by decide) (yr_assign (u := .slice none 0 0) rfl rfl) ?_
      refine VL.r (.inl rfl) rfl (by decide) (yr_assign (u := .slice none 0 0) rfl rfl) ?_
      refine VL.r (.inl rfl) rfl (by decide) (yr_assign (u := .bool false) rfl rfl) ?_
      refine VL.nil ?_
      refine VE.then_wp ?_
      refine V.ret ?_
      refine VE.then_ret ?_
      refine ret3 rfl rfl rfl rfl (by nofun) (by nofun) (by nofun) (fun w1 hw => ?_)
      first
        | exact ⟨((some ⟨b18, 0, none⟩, (xss.getD 0 []).length * (xss.getD 0 []).length), (some ⟨e18, 0, none⟩, (xss.getD 0 []).length)), by rw [normAD_yes hs, normBD_yes hs, hs, normA_length, normB_length] <;> rfl, by rw [normAD_yes hs, normBD_yes hs]; exact hw.outs (((List.nil_sublist _).cons_cons _).cons_cons _)⟩
        | (have hs : normOk xss ws gs x = false := by first | (simp only [normOk, *, Bool.false_and, Bool.and_false, Bool.and_true]; done) | (simp only [normOk, least, *, Bool.false_and, Bool.and_false, Bool.and_true]; done)
           exact ⟨((none, 0), (none, 0)), by rw [normAD_no hs, normBD_no hs, hs]; rfl, hw.below, by rw [normAD_no hs, normBD_no hs]; simp [fl, Ent.at], by simp [Ent.apart]⟩)
    · skip
      replace h3 := bnot_f h3
      have hs : normOk xss ws gs x = true := by first | (simp only [normOk, *, Bool.false_and, Bool.and_false, Bool.and_true]; done) | (simp only [normOk, least, *, Bool.false_and, Bool.and_false, Bool.and_true]; done)
      have hval := ok_valid hs
      refine V.skip ?_
      refine VE.then_wp ?_
      refine V.seq ?_
      refine V.region ?_
      refine VL.r (.inl rfl) rfl (by decide) (yr_move rfl rfl) ?_
      refine VL.new (.inl rfl) rfl (by decide) (yn_callf rfl known35_Normal (.cons rfl (.cons rfl .nil)) (fun w hw => (c_l07Normal (by first | exact Sees.root (by assumption) w hw | exact Sees.own (by repeat (first | exact List.mem_cons_self | exact List.mem_append_left _ (by assumption) | apply List.mem_cons_of_mem | apply List.mem_append_right)) w hw) (by first | exact Sees.root (by assumption) w hw | exact Sees.own (by repeat (first | exact List.mem_cons_self | exact List.mem_append_left _ (by assumption) | apply List.mem_cons_of_mem | apply List.mem_append_right)) w hw) (by first | exact Rws.root (by assumption) hw | exact Rws.own (by repeat (first | exact RowsIn.here | exact RowsIn.last | apply RowsIn.there | apply RowsIn.thereS)) hw) (by first | exact Sees.root (by assumption) w hw | exact Sees.own (by repeat (first | exact List.mem_cons_self | exact List.mem_append_left _ (by assumption) | apply List.mem_cons_of_mem | apply List.mem_append_right)) w hw) (by first | exact Sees.root (by assumption) w hw | exact Sees.own (by repeat (first | exact List.mem_cons_self | exact List.mem_append_left _ (by assumption) | apply List.mem_cons_of_mem | apply List.mem_append_right)) w hw) (by omega) (by assumption)))) ?_
      rintro ⟨b18, e18⟩
      refine VL.r (.inl rfl) rfl (by decide) (yr_move rfl rfl) ?_
      refine VL.r (.inl rfl) rfl (by decide) (yr_extract rfl rfl rfl (by nofun)) ?_
      refine VL.r (.inl rfl) rfl (by decide) (yr_extract rfl rfl rfl (by nofun)) ?_
      refine VL.r (.inl rfl) rfl (by decide) (yr_assign rfl rfl) ?_
      refine VL.r (.inl rfl) rfl (by decide) (yr_assign rfl rfl) ?_
      refine VL.nil ?_
      refine VE.then_wp ?_
      refine V.seq ?_
      refine V.region ?_
      refine VL.r (.inl rfl) rfl (by decide) (yr_move rfl rfl) ?_
      refine VL.r (.inl rfl) rfl (by decide) (yr_move rfl rfl) ?_
      refine VL.r (.inl rfl) rfl (by decide) (yr_assign rfl rfl) ?_
      refine VL.r (.inl rfl) rfl (by decide) (yr_assign rfl rfl) ?_
      refine VL.r (.inl rfl) rfl (by decide) (yr_assign (u := .bool true) rfl rfl) ?_
      refine VL.nil ?_
      refine VE.then_wp ?_
      refine V.ret ?_
      refine ret3 rfl rfl rfl rfl (by nofun) (by nofun) (by nofun) (fun w1 hw => ?_)
      first
        | exact ⟨((some ⟨b18, 0, none⟩, (xss.getD 0 []).length * (xss.getD 0 []).length), (some ⟨e18, 0, none⟩, (xss.getD 0 []).length)), by rw [normAD_yes hs, normBD_yes hs, hs, normA_length, normB_length] <;> rfl, by rw [normAD_yes hs, normBD_yes hs]; exact hw.outs (((List.nil_sublist _).cons_cons _).cons_cons _)⟩
        | (have hs : normOk xss ws gs x = false := by first | (simp only [normOk, *, Bool.false_and, Bool.and_false, Bool.and_true]; done) | (simp only [normOk, least, *, Bool.false_and, Bool.and_false, Bool.and_true]; done)
           exact ⟨((none, 0), (none, 0)), by rw [normAD_no hs, normBD_no hs, hs]; rfl, hw.below, by rw [normAD_no hs, normBD_no hs]; simp [fl, Ent.at], by simp [Ent.apart]⟩)

theorem c_addLists [PhC] {w0 : World} {a p : Option Addr} {c d cap : Nat} {X Y : List Nat} {m : Nat} (hY : Cl w0 p (fl Y)) (hX : X.length = m) (hYX : Y.length ≤ m) (hn : m ≤ 1050000) : Mut Try.prog 49 [.slice a m c, .slice p Y.length d] w0 [⟨a, fl X, cap, 26⟩] (fun _ : Unit => .tuple #[]) (fun _ => [⟨a, fl (addL X Y Y.length), cap, 26⟩]) := by
  refine Mut.enter Try.func49 rfl Try.ntmps49 (Nat.le_of_ble_eq_true rfl) ?_
  intro F
  refine V.seq ?_
  refine V.region ?_
  refine VL.r (.inl rfl) rfl (by decide) (yr_move rfl rfl) ?_
  refine VL.r (.inl rfl) rfl (by decide) (yr_len rfl Try.underlying23 rfl) ?_
  refine VL.r (.inl rfl) rfl (by decide) (yr_move (u := .int .i64 0) rfl rfl) ?_
  refine VL.nil ?_
  refine VE.then_wp ?_
  refine V.block ?_
  refine V.loopc (G := Nat) [(0, _), (6, _), (7, _)] (fun (k : Nat) => k ≤ Y.length) (fun (k : Nat) => (F ++ [⟨a, fl (addL X Y k), cap, 26⟩])) (fun (k : Nat) => [(8, .int .i64 (k : Int))]) (fun (k : Nat) => Y.length - k) 0 (.cons rfl (.cons rfl (.cons rfl .nil))) (.cons rfl .nil) ?_ ?_ ?_
  · exact (fun w hw => hw)
  · exact (by omega)
  rintro k hk
  show V _ _ _ (F ++ [⟨a, fl (addL X Y k), cap, 26⟩]) ([(8, .int .i64 (k : Int))] ++ [(0, _), (6, _), (7, _)]) _ _
  refine V.seq ?_
  refine V.region ?_
  refine VL.r (.inl rfl) rfl (by decide) (yr_icmp rfl (.inr (.inr (.inl rfl))) rfl rfl) ?_
  refine VL.nil ?_
  refine VE.then_wp ?_
  refine V.seq ?_
  refine V.cond rfl (fun h1 => ?_) (fun h1 => ?_)
  · skip
    replace h1 := ic_lss h1
    refine V.skip ?_
    refine VE.then_wp ?_
    refine V.seq ?_
    refine V.block ?_
    refine V.seq ?_
    refine V.region ?_
    refine VL.r (.inl rfl) rfl (by decide) (yr_move rfl rfl) ?_
    refine VL.q (.inl rfl) rfl (by decide) (yq_idx (k := k) rfl Try.underlying23 sz26_Normal rfl rfl (by first | exact Sees.root (by assumption) | exact Sees.own (by repeat (first | exact List.mem_cons_self | exact List.mem_append_left _ (by assumption) | apply List.mem_cons_of_mem | apply List.mem_append_right)) | exact Sees.root (hR _ (by omega)) | exact Sees.own (RowsIn.mem (by repeat (first | exact RowsIn.here | exact RowsIn.last | apply RowsIn.there | apply RowsIn.thereS)) _ (by omega)) | exact Sees.own (WRowsIn.mem (by repeat (first | exact WRowsIn.here | exact WRowsIn.last | apply WRowsIn.there | apply WRowsIn.thereS)) _ (by omega))) (by first | rfl | omega | (push_cast; rfl) | (push_cast; omega) | exact tmod_nat _ _) (by first | exact fl_length _ | (rw [fl_length, addL_length]; exact hX)) (by first | omega | (rw [addL_length, hX]; omega))) ?_
    refine VL.q (.inl rfl) rfl (by decide) (yq_loadF rfl fb26_Normal rfl (by first | exact Sees.root (by assumption) | exact Sees.own (by repeat (first | exact List.mem_cons_self | exact List.mem_append_left _ (by assumption) | apply List.mem_cons_of_mem | apply List.mem_append_right)) | exact Sees.root (hR _ (by omega)) | exact Sees.own (RowsIn.mem (by repeat (first | exact RowsIn.here | exact RowsIn.last | apply RowsIn.there | apply RowsIn.thereS)) _ (by omega)) | exact Sees.own (WRowsIn.mem (by repeat (first | exact WRowsIn.here | exact WRowsIn.last | apply WRowsIn.there | apply WRowsIn.thereS)) _ (by omega))) (by first | omega | (rw [addL_length, hX]; omega))) ?_
    refine VL.r (.inl rfl) rfl (by decide) (yr_assign rfl rfl) ?_
    refine VL.r (.inl rfl) rfl (by decide) (yr_assign rfl rfl) ?_
    refine VL.nil ?_
    refine VE.then_wp ?_
    refine V.region ?_
    refine VL.r (.inl rfl) rfl (by decide) (yr_move rfl rfl) ?_
    refine VL.r (.inl rfl) rfl (by decide) (yr_move rfl rfl) ?_
    refine VL.r (.inl rfl) rfl (by decide) (yr_move rfl rfl) ?_
    refine VL.r (.inl rfl) rfl (by decide) (yr_move rfl rfl) ?_
    refine VL.q (.inl rfl) rfl (by decide) (yq_idx (k := k) rfl Try.underlying23 sz26_Normal rfl rfl (by first | exact Sees.root (by assumption) | exact Sees.own (by repeat (first | exact List.mem_cons_self | exact List.mem_append_left _ (by assumption) | apply List.mem_cons_of_mem | apply List.mem_append_right)) | exact Sees.root (hR _ (by omega)) | exact Sees.own (RowsIn.mem (by repeat (first | exact RowsIn.here | exact RowsIn.last | apply RowsIn.there | apply RowsIn.thereS)) _ (by omega)) | exact Sees.own (WRowsIn.mem (by repeat (first | exact WRowsIn.here | exact WRowsIn.last | apply WRowsIn.there | apply WRowsIn.thereS)) _ (by omega))) (by first | rfl | omega | (push_cast; rfl) | (push_cast; omega) | exact tmod_nat _ _) (by first | exact fl_length _ | (rw [fl_length, addL_length]; exact hX)) (by first | omega | (rw [addL_length, hX]; omega))) ?_
    refine VL.q (.inl rfl) rfl (by decide) (yq_loadF rfl fb26_Normal rfl (by first | exact Sees.root (by assumption) | exact Sees.own (by repeat (first | exact List.mem_cons_self | exact List.mem_append_left _ (by assumption) | apply List.mem_cons_of_mem | apply List.mem_append_right)) | exact Sees.root (hR _ (by omega)) | exact Sees.own (RowsIn.mem (by repeat (first | exact RowsIn.here | exact RowsIn.last | apply RowsIn.there | apply RowsIn.thereS)) _ (by omega)) | exact Sees.own (WRowsIn.mem (by repeat (first | exact WRowsIn.here | exact WRowsIn.last | apply WRowsIn.there | apply WRowsIn.thereS)) _ (by omega))) (by first | omega | (rw [addL_length, hX]; omega))) ?_
    refine VL.r (.inl rfl) rfl (by decide) (yr_move rfl rfl) ?_
    refine VL.r (.inl rfl) rfl (by decide) (yr_float rfl (.inl rfl) rfl rfl) ?_
    refine VL.q (.inl rfl) rfl (by decide) (yq_idx (k := k) rfl Try.underlying23 sz26_Normal rfl rfl (by first | exact Sees.root (by assumption) | exact Sees.own (by repeat (first | exact List.mem_cons_self | exact List.mem_append_left _ (by assumption) | apply List.mem_cons_of_mem | apply List.mem_append_right)) | exact Sees.root (hR _ (by omega)) | exact Sees.own (RowsIn.mem (by repeat (first | exact RowsIn.here | exact RowsIn.last | apply RowsIn.there | apply RowsIn.thereS)) _ (by omega)) | exact Sees.own (WRowsIn.mem (by repeat (first | exact WRowsIn.here | exact WRowsIn.last | apply WRowsIn.there | apply WRowsIn.thereS)) _ (by omega))) (by first | rfl | omega | (push_cast; rfl) | (push_cast; omega) | exact tmod_nat _ _) (by first | exact fl_length _ | (rw [fl_length, addL_length]; exact hX)) (by first | omega | (rw [addL_length, hX]; omega))) ?_
    refine VL.s (.inl rfl) rfl (yc_store rfl sz26_Normal rfl rfl (by repeat (first | exact UpdF.here | apply UpdF.there | apply UpdF.thereS)) (.inl ⟨rfl, rfl⟩) rfl (by rw [fl_length, addL_length, hX]; omega) (by decide) (fl_set _ _ _)) ?_
    rintro ⟨⟩
    refine VL.nil ?_
    refine VE.block_normal ?_
    refine VE.then_wp ?_
    refine V.region ?_
    refine VL.r (.inl rfl) rfl (by decide) (yr_int rfl rfl rfl (.inl ⟨rfl, wrap_in (by omega)⟩)) ?_
    refine VL.r (.inl rfl) rfl (by decide) (yr_move rfl rfl) ?_
    refine VL.nil ?_
    refine VE.round (k + 1) ?_ ?_ ?_ ?_ ?_
    · exact (.cons rfl .nil)
    · exact (.cons rfl (.cons rfl (.cons rfl .nil)))
    · exact (fun w hw => hw)
    · omega
    · (try dsimp only); omega
  · skip
    replace h1 := ic_lss' h1
    refine V.exit ?_
    refine VE.then_exit ?_
    refine VE.then_exit ?_
    refine VE.block_here ?_
    refine VE.fall ?_
    refine ret0 rfl (fun w1 hw => ?_)
    obtain rfl : k = Y.length := by omega
    exact ⟨(), rfl, hw⟩

end Go.Proofs.Ytgeflnjjppgooaa.Q

