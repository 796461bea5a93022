/- Own texts of this claim, merged: WWbM, WSrc, Fill, Square, Ridge, Block, Lim, WFill, WSquare, WMark, Abs, WWorst, Open, OpenW, MarkK, WMarkK, SetC, Own, WSetC, Dy, Err, ErrB, ErrC. -/
import Derived.KernelRfl
import Derived.Test.YtfeciemlhiclbaaKFnFilled4
namespace Go.Proofs.Ytfeciemlhiclbaa
open Go.RowKit
set_option linter.unusedVariables false
set_option linter.unusedSimpArgs false
set_option maxRecDepth 20000

theorem known20_WbM : Known Try.prog 20 := Known.mk' Try.func20 (by kernel_rfl)
theorem sz35_WbM : (Try.prog.info? 35).map (·.size) = some 8 := by kernel_rfl
theorem known8_WbM : Known Try.prog 8 := Known.mk' Try.func8 (by kernel_rfl)
theorem sz2_WbM : (Try.prog.info? 2).map (·.size) = some 1 := by kernel_rfl
theorem fb2_WbM : flatB Try.prog 2 = true := by kernel_rfl
theorem known30_WbM : Known Try.prog 30 := Known.mk' Try.func30 (by kernel_rfl)
theorem sz25_WbM : (Try.prog.info? 25).map (·.size) = some 1 := by kernel_rfl
theorem fb25_WbM : flatB Try.prog 25 = true := by kernel_rfl
theorem known25_WbM : Known Try.prog 25 := Known.mk' Try.func25 (by kernel_rfl)
theorem zero32_WbM : (Try.prog.info? 32).bind (·.zero) = some (Value.agg #[Value.float .f32 0, Value.float .f32 0, Value.float .f32 0]) := by kernel_rfl
theorem sz32_WbM : (Try.prog.info? 32).map (·.size) = some 3 := by kernel_rfl
theorem known27_WbM : Known Try.prog 27 := Known.mk' Try.func27 (by kernel_rfl)
theorem known24_WbM : Known Try.prog 24 := Known.mk' Try.func24 (by kernel_rfl)
theorem mixed_WbM : Try.prog.follows .mixedOrders = true := by kernel_rfl
theorem known33_WbM : Known Try.prog 33 := Known.mk' Try.func33 (by kernel_rfl)
theorem known32_WbM : Known Try.prog 32 := Known.mk' Try.func32 (by kernel_rfl)
theorem known31_WbM : Known Try.prog 31 := Known.mk' Try.func31 (by kernel_rfl)
theorem known34_WbM : Known Try.prog 34 := Known.mk' Try.func34 (by kernel_rfl)
attribute [local irreducible] fop fcmp fconv sqrt32 fneg segF fieldS fieldI List.getD ffl mval between3 valI valS wbU wbN mid

theorem c_implWb {w : World} {a : Option Addr} {c : Nat} {f : Nat → Option Addr × Nat} {ws : List Wr} {f1 f2 f3 st : Nat} {wi hi de : Int} {d : Option Addr} {e : Nat} {vs : List V3} (hA : Cl w a (whd f ws)) (hR : WRws w f ws) (hn : wbulk ws ≤ 1050000) (hV : Cl w d (vl vs)) : Pure Try.prog 12 [.slice a ws.length c, .agg #[.float .f32 f1, .float .f32 f2, .float .f32 f3, .float .f32 st, .int .i64 wi, .int .i64 hi, .int .i64 de, .slice d vs.length e]] w (.tuple #[.float .f32 (wbD ws vs (f1, f2, f3) st wi hi de), .bool (wbOk ws vs (f1, f2, f3) st wi hi de)]) := by
  refine Pure.enter Try.func12 rfl Try.ntmps12 (Nat.le_of_ble_eq_true rfl) ?_
  have hwl : ws.length ≤ wbulk ws := by unfold wbulk; omega
  have hrw : ∀ k, k < ws.length → (ws.getD k zw).1.length ≤ 1050000 := fun k hk => by have := wbulk_row hk; omega
  refine V.seq ?_
  refine V.region ?_
  refine VL.new1 (.inl rfl) rfl (by decide) (yn_box rfl rfl (.inr ⟨rfl, rfl⟩)) ?_
  intro b3
  refine VL.r (.inl rfl) rfl (by decide) (yr_assign (u := .float .f32 0) rfl rfl) ?_
  refine VL.r (.inl rfl) rfl (by decide) (yr_assign (u := .bool false) rfl rfl) ?_
  refine VL.nil ?_
  refine VE.then_wp ?_
  refine V.seq ?_
  refine V.seq ?_
  refine V.region ?_
  refine VL.r (.inl rfl) rfl (by decide) (yr_move rfl rfl) ?_
  refine VL.q (.inl rfl) rfl (by decide) (yq_callf rfl known20_WbM (.cons rfl .nil) (fun w hw => (c_implAre (by first | exact Sees.root (by assumption) w hw | exact Sees.own (by repeat (first | exact List.mem_cons_self | exact List.mem_append_left _ (by assumption) | apply List.mem_cons_of_mem | apply List.mem_append_right)) w hw) (by first | exact WRws.root (by assumption) hw | exact WRws.own (by repeat (first | exact WRowsIn.here | exact WRowsIn.last | apply WRowsIn.there | apply WRowsIn.thereS)) hw) (by omega)))) ?_
  refine VL.r (.inl rfl) rfl (by decide) (yr_not rfl rfl) ?_
  refine VL.r (.inl rfl) rfl (by decide) (yr_move rfl rfl) ?_
  refine VX.split 20 _ rfl (fun h1 => ?_) (fun h1 => ?_)
  · skip
    replace h1 := bnot_t h1
    refine VL.no rfl rfl rfl rfl rfl (by decide) ?_
    refine VL.no rfl rfl rfl rfl rfl (by decide) ?_
    refine VL.no rfl rfl rfl rfl rfl (by decide) ?_
    refine VL.r (.inl rfl) rfl (by decide) (yr_pick_t (u := .bool true) rfl rfl rfl) ?_
    refine VL.nil ?_
    refine VE.then_wp ?_
    refine V.condT rfl ?_
    refine V.seq ?_
    refine V.region ?_
    refine VL.r (.inl rfl) rfl (by decide) (yr_assign (u := .float .f32 0) rfl rfl) ?_
    refine VL.r (.inl rfl) rfl (by decide) (yr_assign (u := .bool false) rfl rfl) ?_
    refine VL.nil ?_
    refine VE.then_wp ?_
    refine V.ret ?_
    refine VE.then_ret ?_
    refine ret2 rfl rfl rfl (by nofun) (by nofun) (fun w1 hw => ?_)
    first
      | (obtain rfl : z = hvN D := by omega
         have hE : wbL ws vs (f1, f2, f3) st (W : Int) (H : Int) (D : Int) = (wbU ws vs (f1, f2, f3) st W H D (nd W H 0 0 (hvN D))) := wbU_zn hge.1 hge.2.1
         cases hf : fin (wbU ws vs (f1, f2, f3) st W H D (nd W H 0 0 (hvN D))) with
         | false =>
           have hs : wbOk ws vs (f1, f2, f3) st (W : Int) (H : Int) (D : Int) = false := wb_no3 (by rw [hE]; exact hf)
           exact ⟨by rw [wbD_no hs, hs]; rfl, hw.below⟩
         | true =>
           have hs : wbOk ws vs (f1, f2, f3) st (W : Int) (H : Int) (D : Int) = true := wb_yes (by assumption) hok (by rw [hE]; exact hf)
           exact ⟨by rw [wbD_yes hs, hs, hE]; rfl, hw.below⟩)
      | (have hs : wbOk ws vs (f1, f2, f3) st wi hi de = false := by first | exact wb_no1 (by assumption) | exact wb_no2 (by assumption)); (exact ⟨by rw [wbD_no hs, hs], hw.below⟩)
  · skip
    replace h1 := bnot_f h1
    refine VL.q (.inr ⟨_, _, _, rfl, rfl, rfl⟩) rfl (by decide) (yq_loadS rfl Try.underlying35 sz35_WbM rfl (by first | exact Sees.root (by assumption) | exact Sees.own (by repeat (first | exact List.mem_cons_self | exact List.mem_append_left _ (by assumption) | apply List.mem_cons_of_mem | apply List.mem_append_right)) | exact Sees.root (hR _ (by omega)) | exact Sees.own (RowsIn.mem (by repeat (first | exact RowsIn.here | exact RowsIn.last | apply RowsIn.there | apply RowsIn.thereS)) _ (by omega)) | exact Sees.own (WRowsIn.mem (by repeat (first | exact WRowsIn.here | exact WRowsIn.last | apply WRowsIn.there | apply WRowsIn.thereS)) _ (by omega))) rfl rfl rfl) ?_
    refine VL.q (.inr ⟨_, _, _, rfl, rfl, rfl⟩) rfl (by decide) (yq_callf rfl known8_WbM (.cons rfl .nil) (fun w hw => c_implMesh)) ?_
    refine VL.r (.inr ⟨_, _, _, rfl, rfl, rfl⟩) rfl (by decide) (yr_not rfl rfl) ?_
    refine VL.r (.inl rfl) rfl (by decide) (yr_pick_f rfl rfl rfl) ?_
    refine VL.nil ?_
    refine VE.then_wp ?_
    refine V.cond rfl (fun h3 => ?_) (fun h3 => ?_)
    · skip
      replace h3 := bnot_t h3
      refine V.seq ?_
      refine V.region ?_
      refine VL.r (.inl rfl) rfl (by decide) (yr_assign (u := .float .f32 0) rfl rfl) ?_
      refine VL.r (.inl rfl) rfl (by decide) (yr_assign (u := .bool false) rfl rfl) ?_
      refine VL.nil ?_
      refine VE.then_wp ?_
      refine V.ret ?_
      refine VE.then_ret ?_
      refine ret2 rfl rfl rfl (by nofun) (by nofun) (fun w1 hw => ?_)
      first
        | (obtain rfl : z = hvN D := by omega
           have hE : wbL ws vs (f1, f2, f3) st (W : Int) (H : Int) (D : Int) = (wbU ws vs (f1, f2, f3) st W H D (nd W H 0 0 (hvN D))) := wbU_zn hge.1 hge.2.1
           cases hf : fin (wbU ws vs (f1, f2, f3) st W H D (nd W H 0 0 (hvN D))) with
           | false =>
             have hs : wbOk ws vs (f1, f2, f3) st (W : Int) (H : Int) (D : Int) = false := wb_no3 (by rw [hE]; exact hf)
             exact ⟨by rw [wbD_no hs, hs]; rfl, hw.below⟩
           | true =>
             have hs : wbOk ws vs (f1, f2, f3) st (W : Int) (H : Int) (D : Int) = true := wb_yes (by assumption) hok (by rw [hE]; exact hf)
             exact ⟨by rw [wbD_yes hs, hs, hE]; rfl, hw.below⟩)
        | (have hs : wbOk ws vs (f1, f2, f3) st wi hi de = false := by first | exact wb_no1 (by assumption) | exact wb_no2 (by assumption)); (exact ⟨by rw [wbD_no hs, hs], hw.below⟩)
    · skip
      replace h3 := bnot_f h3
      have hok : meshOk (f1, f2, f3) st wi hi de vs.length = true := h3
      obtain ⟨W, H, D, rfl, rfl, rfl, hge, hle, hbd, hN⟩ := mesh_open hok
      have hb1 := hvN_le hge.1
      have hb2 := hvN_le hge.2.1
      have hb3 := hvN_le hge.2.2
      refine V.skip ?_
      refine VE.then_wp ?_
      refine V.seq ?_
      refine V.region ?_
      refine VL.r (.inl rfl) rfl (by decide) (yr_assign (u := .float .f32 0) rfl rfl) ?_
      refine VL.nil ?_
      refine VE.then_wp ?_
      refine V.seq ?_
      refine V.seq ?_
      refine V.region ?_
      refine VL.r (.inl rfl) rfl (by decide) (yr_fieldAddr rfl Try.underlying35 rfl rfl sz2_WbM (by decide) rfl) ?_
      refine VL.q (.inl rfl) rfl (by decide) (yq_load rfl fb2_WbM rfl (by first | exact Sees.root (by assumption) | exact Sees.own (by repeat (first | exact List.mem_cons_self | exact List.mem_append_left _ (by assumption) | apply List.mem_cons_of_mem | apply List.mem_append_right)) | exact Sees.root (hR _ (by omega)) | exact Sees.own (RowsIn.mem (by repeat (first | exact RowsIn.here | exact RowsIn.last | apply RowsIn.there | apply RowsIn.thereS)) _ (by omega)) | exact Sees.own (WRowsIn.mem (by repeat (first | exact WRowsIn.here | exact WRowsIn.last | apply WRowsIn.there | apply WRowsIn.thereS)) _ (by omega))) rfl) ?_
      refine VL.new1 (.inl rfl) rfl (by decide) (yn_callf rfl known30_WbM (.cons rfl .nil) (fun w hw => (c_halves (by omega)))) ?_
      rintro ⟨a27, c27⟩
      refine VL.r (.inl rfl) rfl (by decide) (yr_len rfl Try.underlying46 rfl) ?_
      refine VL.r (.inl rfl) rfl (by decide) (yr_move (u := .int .i64 0) rfl rfl) ?_
      refine VL.nil ?_
      refine VE.then_wp ?_
      refine V.block ?_
      refine V.loopc (G := Nat) [(0, _), (3, _), (27, _), (28, _)] (fun (z : Nat) => z ≤ hvN D ∧ True) (fun (z : Nat) => [⟨a27, fl (hv D), c27 * 1, 25⟩, ⟨some ⟨b3, 0, none⟩, [.float .f32 f1, .float .f32 f2, .float .f32 f3, .float .f32 st, .int .i64 (W : Int), .int .i64 (H : Int), .int .i64 (D : Int), .slice d vs.length e], 8, 35⟩]) (fun (z : Nat) => [(6, .float .f32 (wbU ws vs (f1, f2, f3) st W H D (nd W H 0 0 z))), (29, .int .i64 (z : Int))]) (fun (z : Nat) => hvN D - z) 0 (.cons rfl (.cons rfl (.cons rfl (.cons rfl .nil)))) (.cons (congrArg (fun n => some (Value.float .f32 n)) (by exact wbU_0.symm)) (.cons rfl .nil)) ?_ ?_ ?_
      · exact (fun w hw => hw)
      · exact (by exact ⟨Nat.zero_le _, trivial⟩)
      rintro z ⟨hz, _⟩
      show V _ _ _ [⟨a27, fl (hv D), c27 * 1, 25⟩, ⟨some ⟨b3, 0, none⟩, [.float .f32 f1, .float .f32 f2, .float .f32 f3, .float .f32 st, .int .i64 (W : Int), .int .i64 (H : Int), .int .i64 (D : Int), .slice d vs.length e], 8, 35⟩] ([(6, .float .f32 (wbU ws vs (f1, f2, f3) st W H D (nd W H 0 0 z))), (29, .int .i64 (z : Int))] ++ [(0, _), (3, _), (27, _), (28, _)]) _ _
      refine V.seq ?_
      refine V.region ?_
      refine VL.r (.inl rfl) rfl (by decide) (yr_icmp rfl (.inr (.inr (.inl rfl))) rfl rfl) ?_
      refine VL.nil ?_
      refine VE.then_wp ?_
      refine V.seq ?_
      refine V.cond rfl (fun h4 => ?_) (fun h4 => ?_)
      · skip
        replace h4 := ic_lss h4
        refine V.skip ?_
        refine VE.then_wp ?_
        refine V.seq ?_
        refine V.block ?_
        refine V.seq ?_
        refine V.region ?_
        refine VL.q (.inl rfl) rfl (by decide) (yq_idx (k := z) rfl Try.underlying46 sz25_WbM rfl rfl (by first | exact Sees.root (by assumption) | exact Sees.own (by repeat (first | exact List.mem_cons_self | exact List.mem_append_left _ (by assumption) | apply List.mem_cons_of_mem | apply List.mem_append_right)) | exact Sees.root (hR _ (by omega)) | exact Sees.own (RowsIn.mem (by repeat (first | exact RowsIn.here | exact RowsIn.last | apply RowsIn.there | apply RowsIn.thereS)) _ (by omega)) | exact Sees.own (WRowsIn.mem (by repeat (first | exact WRowsIn.here | exact WRowsIn.last | apply WRowsIn.there | apply WRowsIn.thereS)) _ (by omega))) (by first | rfl | omega | (push_cast; rfl) | (push_cast; omega) | exact tmod_nat _ _) (by first | exact (fl_length _).trans (hv_length _)) (by first | omega | (rw [hv_length]; omega))) ?_
        refine VL.q (.inl rfl) rfl (by decide) (yq_loadF rfl fb25_WbM rfl (by first | exact Sees.root (by assumption) | exact Sees.own (by repeat (first | exact List.mem_cons_self | exact List.mem_append_left _ (by assumption) | apply List.mem_cons_of_mem | apply List.mem_append_right)) | exact Sees.root (hR _ (by omega)) | exact Sees.own (RowsIn.mem (by repeat (first | exact RowsIn.here | exact RowsIn.last | apply RowsIn.there | apply RowsIn.thereS)) _ (by omega)) | exact Sees.own (WRowsIn.mem (by repeat (first | exact WRowsIn.here | exact WRowsIn.last | apply WRowsIn.there | apply WRowsIn.thereS)) _ (by omega))) (by first | omega | (rw [hv_length]; omega))) ?_
        refine VL.r (.inl rfl) rfl (by decide) (yr_assign rfl rfl) ?_
        refine VL.nil ?_
        refine VE.then_wp ?_
        refine V.seq ?_
        refine V.region ?_
        refine VL.r (.inl rfl) rfl (by decide) (yr_fieldAddr rfl Try.underlying35 rfl rfl sz2_WbM (by decide) rfl) ?_
        refine VL.q (.inl rfl) rfl (by decide) (yq_load rfl fb2_WbM rfl (by first | exact Sees.root (by assumption) | exact Sees.own (by repeat (first | exact List.mem_cons_self | exact List.mem_append_left _ (by assumption) | apply List.mem_cons_of_mem | apply List.mem_append_right)) | exact Sees.root (hR _ (by omega)) | exact Sees.own (RowsIn.mem (by repeat (first | exact RowsIn.here | exact RowsIn.last | apply RowsIn.there | apply RowsIn.thereS)) _ (by omega)) | exact Sees.own (WRowsIn.mem (by repeat (first | exact WRowsIn.here | exact WRowsIn.last | apply WRowsIn.there | apply WRowsIn.thereS)) _ (by omega))) rfl) ?_
        refine VL.new1 (.inl rfl) rfl (by decide) (yn_callf rfl known30_WbM (.cons rfl .nil) (fun w hw => (c_halves (by omega)))) ?_
        rintro ⟨a35, c35⟩
        refine VL.r (.inl rfl) rfl (by decide) (yr_len rfl Try.underlying46 rfl) ?_
        refine VL.r (.inl rfl) rfl (by decide) (yr_move (u := .int .i64 0) rfl rfl) ?_
        refine VL.nil ?_
        refine VE.then_wp ?_
        refine V.block ?_
        refine V.loopc (G := Nat) [(0, _), (3, _), (8, _), (27, _), (28, _), (29, _), (35, _), (36, _)] (fun (y : Nat) => y ≤ hvN H ∧ True) (fun (y : Nat) => [⟨a35, fl (hv H), c35 * 1, 25⟩, ⟨a27, fl (hv D), c27 * 1, 25⟩, ⟨some ⟨b3, 0, none⟩, [.float .f32 f1, .float .f32 f2, .float .f32 f3, .float .f32 st, .int .i64 (W : Int), .int .i64 (H : Int), .int .i64 (D : Int), .slice d vs.length e], 8, 35⟩]) (fun (y : Nat) => [(6, .float .f32 (wbU ws vs (f1, f2, f3) st W H D (nd W H 0 y z))), (37, .int .i64 (y : Int))]) (fun (y : Nat) => hvN H - y) 0 (.cons rfl (.cons rfl (.cons rfl (.cons rfl (.cons rfl (.cons rfl (.cons rfl (.cons rfl .nil)))))))) (.cons rfl (.cons rfl .nil)) ?_ ?_ ?_
        · exact (fun w hw => hw)
        · exact (by exact ⟨Nat.zero_le _, trivial⟩)
        rintro y ⟨hy, _⟩
        show V _ _ _ [⟨a35, fl (hv H), c35 * 1, 25⟩, ⟨a27, fl (hv D), c27 * 1, 25⟩, ⟨some ⟨b3, 0, none⟩, [.float .f32 f1, .float .f32 f2, .float .f32 f3, .float .f32 st, .int .i64 (W : Int), .int .i64 (H : Int), .int .i64 (D : Int), .slice d vs.length e], 8, 35⟩] ([(6, .float .f32 (wbU ws vs (f1, f2, f3) st W H D (nd W H 0 y z))), (37, .int .i64 (y : Int))] ++ [(0, _), (3, _), (8, _), (27, _), (28, _), (29, _), (35, _), (36, _)]) _ _
        refine V.seq ?_
        refine V.region ?_
        refine VL.r (.inl rfl) rfl (by decide) (yr_icmp rfl (.inr (.inr (.inl rfl))) rfl rfl) ?_
        refine VL.nil ?_
        refine VE.then_wp ?_
        refine V.seq ?_
        refine V.cond rfl (fun h5 => ?_) (fun h5 => ?_)
        · skip
          replace h5 := ic_lss h5
          refine V.skip ?_
          refine VE.then_wp ?_
          refine V.seq ?_
          refine V.block ?_
          refine V.seq ?_
          refine V.region ?_
          refine VL.q (.inl rfl) rfl (by decide) (yq_idx (k := y) rfl Try.underlying46 sz25_WbM rfl rfl (by first | exact Sees.root (by assumption) | exact Sees.own (by repeat (first | exact List.mem_cons_self | exact List.mem_append_left _ (by assumption) | apply List.mem_cons_of_mem | apply List.mem_append_right)) | exact Sees.root (hR _ (by omega)) | exact Sees.own (RowsIn.mem (by repeat (first | exact RowsIn.here | exact RowsIn.last | apply RowsIn.there | apply RowsIn.thereS)) _ (by omega)) | exact Sees.own (WRowsIn.mem (by repeat (first | exact WRowsIn.here | exact WRowsIn.last | apply WRowsIn.there | apply WRowsIn.thereS)) _ (by omega))) (by first | rfl | omega | (push_cast; rfl) | (push_cast; omega) | exact tmod_nat _ _) (by first | exact (fl_length _).trans (hv_length _)) (by first | omega | (rw [hv_length]; omega))) ?_
          refine VL.q (.inl rfl) rfl (by decide) (yq_loadF rfl fb25_WbM rfl (by first | exact Sees.root (by assumption) | exact Sees.own (by repeat (first | exact List.mem_cons_self | exact List.mem_append_left _ (by assumption) | apply List.mem_cons_of_mem | apply List.mem_append_right)) | exact Sees.root (hR _ (by omega)) | exact Sees.own (RowsIn.mem (by repeat (first | exact RowsIn.here | exact RowsIn.last | apply RowsIn.there | apply RowsIn.thereS)) _ (by omega)) | exact Sees.own (WRowsIn.mem (by repeat (first | exact WRowsIn.here | exact WRowsIn.last | apply WRowsIn.there | apply WRowsIn.thereS)) _ (by omega))) (by first | omega | (rw [hv_length]; omega))) ?_
          refine VL.r (.inl rfl) rfl (by decide) (yr_assign rfl rfl) ?_
          refine VL.nil ?_
          refine VE.then_wp ?_
          refine V.seq ?_
          refine V.region ?_
          refine VL.r (.inl rfl) rfl (by decide) (yr_fieldAddr rfl Try.underlying35 rfl rfl sz2_WbM (by decide) rfl) ?_
          refine VL.q (.inl rfl) rfl (by decide) (yq_load rfl fb2_WbM rfl (by first | exact Sees.root (by assumption) | exact Sees.own (by repeat (first | exact List.mem_cons_self | exact List.mem_append_left _ (by assumption) | apply List.mem_cons_of_mem | apply List.mem_append_right)) | exact Sees.root (hR _ (by omega)) | exact Sees.own (RowsIn.mem (by repeat (first | exact RowsIn.here | exact RowsIn.last | apply RowsIn.there | apply RowsIn.thereS)) _ (by omega)) | exact Sees.own (WRowsIn.mem (by repeat (first | exact WRowsIn.here | exact WRowsIn.last | apply WRowsIn.there | apply WRowsIn.thereS)) _ (by omega))) rfl) ?_
          refine VL.new1 (.inl rfl) rfl (by decide) (yn_callf rfl known30_WbM (.cons rfl .nil) (fun w hw => (c_halves (by omega)))) ?_
          rintro ⟨a43, c43⟩
          refine VL.r (.inl rfl) rfl (by decide) (yr_len rfl Try.underlying46 rfl) ?_
          refine VL.r (.inl rfl) rfl (by decide) (yr_move (u := .int .i64 0) rfl rfl) ?_
          refine VL.nil ?_
          refine VE.then_wp ?_
          refine V.block ?_
          refine V.loopc (G := Nat) [(0, _), (3, _), (8, _), (10, _), (27, _), (28, _), (29, _), (35, _), (36, _), (37, _), (43, _), (44, _)] (fun (x : Nat) => x ≤ hvN W ∧ True) (fun (x : Nat) => [⟨a43, fl (hv W), c43 * 1, 25⟩, ⟨a35, fl (hv H), c35 * 1, 25⟩, ⟨a27, fl (hv D), c27 * 1, 25⟩, ⟨some ⟨b3, 0, none⟩, [.float .f32 f1, .float .f32 f2, .float .f32 f3, .float .f32 st, .int .i64 (W : Int), .int .i64 (H : Int), .int .i64 (D : Int), .slice d vs.length e], 8, 35⟩]) (fun (x : Nat) => [(6, .float .f32 (wbU ws vs (f1, f2, f3) st W H D (nd W H x y z))), (45, .int .i64 (x : Int))]) (fun (x : Nat) => hvN W - x) 0 (.cons rfl (.cons rfl (.cons rfl (.cons rfl (.cons rfl (.cons rfl (.cons rfl (.cons rfl (.cons rfl (.cons rfl (.cons rfl (.cons rfl .nil)))))))))))) (.cons rfl (.cons rfl .nil)) ?_ ?_ ?_
          · exact (fun w hw => hw)
          · exact (by exact ⟨Nat.zero_le _, trivial⟩)
          rintro x ⟨hx, _⟩
          show V _ _ _ [⟨a43, fl (hv W), c43 * 1, 25⟩, ⟨a35, fl (hv H), c35 * 1, 25⟩, ⟨a27, fl (hv D), c27 * 1, 25⟩, ⟨some ⟨b3, 0, none⟩, [.float .f32 f1, .float .f32 f2, .float .f32 f3, .float .f32 st, .int .i64 (W : Int), .int .i64 (H : Int), .int .i64 (D : Int), .slice d vs.length e], 8, 35⟩] ([(6, .float .f32 (wbU ws vs (f1, f2, f3) st W H D (nd W H x y z))), (45, .int .i64 (x : Int))] ++ [(0, _), (3, _), (8, _), (10, _), (27, _), (28, _), (29, _), (35, _), (36, _), (37, _), (43, _), (44, _)]) _ _
          refine V.seq ?_
          refine V.region ?_
          refine VL.r (.inl rfl) rfl (by decide) (yr_icmp rfl (.inr (.inr (.inl rfl))) rfl rfl) ?_
          refine VL.nil ?_
          refine VE.then_wp ?_
          refine V.seq ?_
          refine V.cond rfl (fun h6 => ?_) (fun h6 => ?_)
          · skip
            replace h6 := ic_lss h6
            refine V.skip ?_
            refine VE.then_wp ?_
            refine V.seq ?_
            refine V.block ?_
            refine V.seq ?_
            refine V.region ?_
            refine VL.q (.inl rfl) rfl (by decide) (yq_idx (k := x) rfl Try.underlying46 sz25_WbM rfl rfl (by first | exact Sees.root (by assumption) | exact Sees.own (by repeat (first | exact List.mem_cons_self | exact List.mem_append_left _ (by assumption) | apply List.mem_cons_of_mem | apply List.mem_append_right)) | exact Sees.root (hR _ (by omega)) | exact Sees.own (RowsIn.mem (by repeat (first | exact RowsIn.here | exact RowsIn.last | apply RowsIn.there | apply RowsIn.thereS)) _ (by omega)) | exact Sees.own (WRowsIn.mem (by repeat (first | exact WRowsIn.here | exact WRowsIn.last | apply WRowsIn.there | apply WRowsIn.thereS)) _ (by omega))) (by first | rfl | omega | (push_cast; rfl) | (push_cast; omega) | exact tmod_nat _ _) (by first | exact (fl_length _).trans (hv_length _)) (by first | omega | (rw [hv_length]; omega))) ?_
            refine VL.q (.inl rfl) rfl (by decide) (yq_loadF rfl fb25_WbM rfl (by first | exact Sees.root (by assumption) | exact Sees.own (by repeat (first | exact List.mem_cons_self | exact List.mem_append_left _ (by assumption) | apply List.mem_cons_of_mem | apply List.mem_append_right)) | exact Sees.root (hR _ (by omega)) | exact Sees.own (RowsIn.mem (by repeat (first | exact RowsIn.here | exact RowsIn.last | apply RowsIn.there | apply RowsIn.thereS)) _ (by omega)) | exact Sees.own (WRowsIn.mem (by repeat (first | exact WRowsIn.here | exact WRowsIn.last | apply WRowsIn.there | apply WRowsIn.thereS)) _ (by omega))) (by first | omega | (rw [hv_length]; omega))) ?_
            refine VL.r (.inl rfl) rfl (by decide) (yr_assign rfl rfl) ?_
            refine VL.nil ?_
            refine VE.then_wp ?_
            refine V.seq ?_
            refine V.region ?_
            refine VL.q (.inl rfl) rfl (by decide) (yq_loadS rfl Try.underlying35 sz35_WbM rfl (by first | exact Sees.root (by assumption) | exact Sees.own (by repeat (first | exact List.mem_cons_self | exact List.mem_append_left _ (by assumption) | apply List.mem_cons_of_mem | apply List.mem_append_right)) | exact Sees.root (hR _ (by omega)) | exact Sees.own (RowsIn.mem (by repeat (first | exact RowsIn.here | exact RowsIn.last | apply RowsIn.there | apply RowsIn.thereS)) _ (by omega)) | exact Sees.own (WRowsIn.mem (by repeat (first | exact WRowsIn.here | exact WRowsIn.last | apply WRowsIn.there | apply WRowsIn.thereS)) _ (by omega))) rfl rfl rfl) ?_
            refine VL.r (.inl rfl) rfl (by decide) (yr_move rfl rfl) ?_
            refine VL.r (.inl rfl) rfl (by decide) (yr_move rfl rfl) ?_
            refine VL.r (.inl rfl) rfl (by decide) (yr_move rfl rfl) ?_
            refine VL.q (.inl rfl) rfl (by decide) (yq_callf rfl known25_WbM (.cons rfl (.cons rfl (.cons rfl (.cons rfl .nil)))) (fun w hw => c_place)) ?_
            refine VL.new1 (.inl rfl) rfl (by decide) (yn_alloc rfl zero32_WbM rfl) ?_
            intro b13
            refine VL.s (.inl rfl) rfl (yc_store rfl sz32_WbM rfl rfl (by repeat (first | exact UpdF.here | apply UpdF.there | apply UpdF.thereS)) (.inr ⟨rfl, rfl⟩) rfl (by first | exact Nat.le_of_ble_eq_true rfl | simp) (by decide) rfl) ?_
            rintro ⟨⟩
            refine VL.nil ?_
            refine VE.then_wp ?_
            refine V.seq ?_
            refine V.seq ?_
            refine V.region ?_
            refine VL.q (.inl rfl) rfl (by decide) (yq_loadS rfl Try.underlying32 sz32_WbM rfl (by first | exact Sees.root (by assumption) | exact Sees.own (by repeat (first | exact List.mem_cons_self | exact List.mem_append_left _ (by assumption) | apply List.mem_cons_of_mem | apply List.mem_append_right)) | exact Sees.root (hR _ (by omega)) | exact Sees.own (RowsIn.mem (by repeat (first | exact RowsIn.here | exact RowsIn.last | apply RowsIn.there | apply RowsIn.thereS)) _ (by omega)) | exact Sees.own (WRowsIn.mem (by repeat (first | exact WRowsIn.here | exact WRowsIn.last | apply WRowsIn.there | apply WRowsIn.thereS)) _ (by omega))) rfl rfl rfl) ?_
            refine VL.q (.inl rfl) rfl (by decide) (yq_callf rfl known27_WbM (.cons rfl .nil) (fun w hw => (c_fin3 (x1 := (hvP (f1, f2, f3) st W H D x y z).1) (x2 := (hvP (f1, f2, f3) st W H D x y z).2.1) (x3 := (hvP (f1, f2, f3) st W H D x y z).2.2)))) ?_
            refine VL.r (.inl rfl) rfl (by decide) (yr_not rfl rfl) ?_
            refine VL.nil ?_
            refine VE.then_wp ?_
            refine V.cond rfl (fun h7 => ?_) (fun h7 => ?_)
            · skip
              replace h7 := bnot_t h7
              refine V.exit ?_
              refine VE.then_exit ?_
              refine VE.block_here ?_
              refine VE.then_wp ?_
              refine V.region ?_
              refine VL.r (.inl rfl) rfl (by decide) (yr_int rfl rfl rfl (.inl ⟨rfl, wrap_in (by omega)⟩)) ?_
              refine VL.r (.inl rfl) rfl (by decide) (yr_move rfl rfl) ?_
              refine VL.nil ?_
              refine VE.round (x + 1) ?_ ?_ ?_ ?_ ?_
              · exact (.cons (congrArg (fun n => some (Value.float .f32 n)) (by rw [wbI_in (by omega) (by omega) (by omega) hge.1 hge.2.1]; first | exact (wbN_yes (by assumption) (by assumption)).symm | exact (wbN_no1 (by assumption)).symm | exact (wbN_no2 (by assumption)).symm)) (.cons rfl .nil))
              · exact (.cons rfl (.cons rfl (.cons rfl (.cons rfl (.cons rfl (.cons rfl (.cons rfl (.cons rfl (.cons rfl (.cons rfl (.cons rfl (.cons rfl .nil))))))))))))
              · exact (fun w hw => by first | exact hw.sub ((List.sublist_cons_self _ _).trans (List.sublist_cons_self _ _)) | exact hw.sub (List.sublist_cons_self _ _))
              · exact ⟨by omega, trivial⟩
              · (try dsimp only); omega
            · skip
              replace h7 := bnot_f h7
              refine V.skip ?_
              refine VE.then_wp ?_
              refine V.seq ?_
              refine V.region ?_
              refine VL.r (.inl rfl) rfl (by decide) (yr_move rfl rfl) ?_
              refine VL.q (.inl rfl) rfl (by decide) (yq_loadS rfl Try.underlying32 sz32_WbM rfl (by first | exact Sees.root (by assumption) | exact Sees.own (by repeat (first | exact List.mem_cons_self | exact List.mem_append_left _ (by assumption) | apply List.mem_cons_of_mem | apply List.mem_append_right)) | exact Sees.root (hR _ (by omega)) | exact Sees.own (RowsIn.mem (by repeat (first | exact RowsIn.here | exact RowsIn.last | apply RowsIn.there | apply RowsIn.thereS)) _ (by omega)) | exact Sees.own (WRowsIn.mem (by repeat (first | exact WRowsIn.here | exact WRowsIn.last | apply WRowsIn.there | apply WRowsIn.thereS)) _ (by omega))) rfl rfl rfl) ?_
              refine VL.q (.inl rfl) rfl (by decide) (yq_callf rfl known24_WbM (.cons rfl (.cons rfl .nil)) (fun w hw => (c_fieldAll (p1 := (hvP (f1, f2, f3) st W H D x y z).1) (p2 := (hvP (f1, f2, f3) st W H D x y z).2.1) (p3 := (hvP (f1, f2, f3) st W H D x y z).2.2) (by first | exact Sees.root (by assumption) w hw | exact Sees.own (by repeat (first | exact List.mem_cons_self | exact List.mem_append_left _ (by assumption) | apply List.mem_cons_of_mem | apply List.mem_append_right)) w hw) (by first | exact WRws.root (by assumption) hw | exact WRws.own (by repeat (first | exact WRowsIn.here | exact WRowsIn.last | apply WRowsIn.there | apply WRowsIn.thereS)) hw) (by omega) (by assumption)))) ?_
              refine VL.r (.inl rfl) rfl (by decide) (yr_move rfl rfl) ?_
              refine VL.r (.inl rfl) rfl (by decide) (yr_extract rfl rfl rfl (by nofun)) ?_
              refine VL.r (.inl rfl) rfl (by decide) (yr_extract rfl rfl rfl (by nofun)) ?_
              refine VL.new1 (.inl rfl) rfl (by decide) (yn_alloc rfl zero32_WbM rfl) ?_
              intro b14
              refine VL.s (.inl rfl) rfl (yc_store rfl sz32_WbM rfl rfl (by repeat (first | exact UpdF.here | apply UpdF.there | apply UpdF.thereS)) (.inr ⟨rfl, rfl⟩) rfl (by first | exact Nat.le_of_ble_eq_true rfl | simp) (by decide) rfl) ?_
              rintro ⟨⟩
              refine VL.r (.inl rfl) rfl (by decide) (yr_assign rfl rfl) ?_
              refine VL.nil ?_
              refine VE.then_wp ?_
              refine V.seq ?_
              refine Dr.V.drawR [(0, 5), (1, 5), (2, 5), (3, 5), (4, 5), (5, 5), (6, 5)] [] [] _ mixed_WbM (by kernel_rfl) (fun w hw => hw) ?_
              refine Dr.SW.p rfl (.inl rfl) rfl (by decide) (yq_loadS rfl Try.underlying35 sz35_WbM rfl (by first | exact Sees.root (by assumption) | exact Sees.own (by (try simp only [List.append_assoc, List.cons_append, List.nil_append]); repeat (first | exact List.mem_cons_self | exact List.mem_append_left _ (by assumption) | apply List.mem_cons_of_mem | apply List.mem_append_right)) | exact Sees.root (hR _ (by omega)) | exact Sees.own (RowsIn.mem (by (try simp only [List.append_assoc, List.cons_append, List.nil_append]); repeat (first | exact RowsIn.here | exact RowsIn.last | apply RowsIn.there | apply RowsIn.thereS)) _ (by omega)) | exact Sees.own (WRowsIn.mem (by (try simp only [List.append_assoc, List.cons_append, List.nil_append]); repeat (first | exact WRowsIn.here | exact WRowsIn.last | apply WRowsIn.there | apply WRowsIn.thereS)) _ (by omega))) rfl rfl rfl) ?_
              refine Dr.SW.p rfl (.inl rfl) rfl (by decide) (yq_loadS rfl Try.underlying32 sz32_WbM rfl (by first | exact Sees.root (by assumption) | exact Sees.own (by (try simp only [List.append_assoc, List.cons_append, List.nil_append]); repeat (first | exact List.mem_cons_self | exact List.mem_append_left _ (by assumption) | apply List.mem_cons_of_mem | apply List.mem_append_right)) | exact Sees.root (hR _ (by omega)) | exact Sees.own (RowsIn.mem (by (try simp only [List.append_assoc, List.cons_append, List.nil_append]); repeat (first | exact RowsIn.here | exact RowsIn.last | apply RowsIn.there | apply RowsIn.thereS)) _ (by omega)) | exact Sees.own (WRowsIn.mem (by (try simp only [List.append_assoc, List.cons_append, List.nil_append]); repeat (first | exact WRowsIn.here | exact WRowsIn.last | apply WRowsIn.there | apply WRowsIn.thereS)) _ (by omega))) rfl rfl rfl) ?_
              refine Dr.SW.p rfl (.inl rfl) rfl (by decide) (yq_callf rfl known33_WbM (.cons rfl (.cons rfl .nil)) (fun w hw => (c_valI (p1 := (hvP (f1, f2, f3) st W H D x y z).1) (p2 := (hvP (f1, f2, f3) st W H D x y z).2.1) (p3 := (hvP (f1, f2, f3) st W H D x y z).2.2) (by first | exact Sees.root (by assumption) w hw | exact Sees.own (by (try simp only [List.append_assoc, List.cons_append, List.nil_append]); repeat (first | exact List.mem_cons_self | exact List.mem_append_left _ (by assumption) | apply List.mem_cons_of_mem | apply List.mem_append_right)) w hw) hN hbd (by omega) (by omega) (by omega)))) ?_
              refine Dr.SW.p rfl (.inl rfl) rfl (by decide) (yq_loadS rfl Try.underlying32 sz32_WbM rfl (by first | exact Sees.root (by assumption) | exact Sees.own (by (try simp only [List.append_assoc, List.cons_append, List.nil_append]); repeat (first | exact List.mem_cons_self | exact List.mem_append_left _ (by assumption) | apply List.mem_cons_of_mem | apply List.mem_append_right)) | exact Sees.root (hR _ (by omega)) | exact Sees.own (RowsIn.mem (by (try simp only [List.append_assoc, List.cons_append, List.nil_append]); repeat (first | exact RowsIn.here | exact RowsIn.last | apply RowsIn.there | apply RowsIn.thereS)) _ (by omega)) | exact Sees.own (WRowsIn.mem (by (try simp only [List.append_assoc, List.cons_append, List.nil_append]); repeat (first | exact WRowsIn.here | exact WRowsIn.last | apply WRowsIn.there | apply WRowsIn.thereS)) _ (by omega))) rfl rfl rfl) ?_
              refine Dr.SW.p rfl (.inl rfl) rfl (by decide) (yq_callf rfl known32_WbM (.cons rfl (.cons rfl .nil)) (fun w hw => c_sub3)) ?_
              refine Dr.SW.p rfl (.inl rfl) rfl (by decide) (yq_callf rfl known31_WbM (.cons rfl .nil) (fun w hw => c_long3)) ?_
              refine Dr.SW.r rfl (.inl rfl) rfl (by decide) (yr_assign rfl rfl) ?_
              refine Dr.SW.done ?_
              refine Dr.eqO (by simp only [List.append_nil, List.append_assoc, List.cons_append, List.nil_append] <;> rfl) ?_
              refine VE.then_wp ?_
              refine V.seq ?_
              refine V.region ?_
              refine VL.r (.inl rfl) rfl (by decide) (yr_move rfl rfl) ?_
              refine VL.r (.inl rfl) rfl (by decide) (yr_move rfl rfl) ?_
              refine VL.r (.inl rfl) rfl (by decide) (yr_fcmp rfl (.inr (.inr (.inr (.inr (.inl rfl))))) rfl rfl) ?_
              refine VL.nil ?_
              refine VE.then_wp ?_
              refine V.cond rfl (fun h8 => ?_) (fun h8 => ?_)
              · skip
                refine V.region ?_
                refine VL.r (.inl rfl) rfl (by decide) (yr_move rfl rfl) ?_
                refine VL.r (.inl rfl) rfl (by decide) (yr_assign rfl rfl) ?_
                refine VL.nil ?_
                refine VE.block_normal ?_
                refine VE.then_wp ?_
                refine V.region ?_
                refine VL.r (.inl rfl) rfl (by decide) (yr_int rfl rfl rfl (.inl ⟨rfl, wrap_in (by omega)⟩)) ?_
                refine VL.r (.inl rfl) rfl (by decide) (yr_move rfl rfl) ?_
                refine VL.nil ?_
                refine VE.round (x + 1) ?_ ?_ ?_ ?_ ?_
                · exact (.cons (congrArg (fun n => some (Value.float .f32 n)) (by rw [wbI_in (by omega) (by omega) (by omega) hge.1 hge.2.1]; first | exact (wbN_yes (by assumption) (by assumption)).symm | exact (wbN_no1 (by assumption)).symm | exact (wbN_no2 (by assumption)).symm)) (.cons rfl .nil))
                · exact (.cons rfl (.cons rfl (.cons rfl (.cons rfl (.cons rfl (.cons rfl (.cons rfl (.cons rfl (.cons rfl (.cons rfl (.cons rfl (.cons rfl .nil))))))))))))
                · exact (fun w hw => by first | exact hw.sub ((List.sublist_cons_self _ _).trans (List.sublist_cons_self _ _)) | exact hw.sub (List.sublist_cons_self _ _))
                · exact ⟨by omega, trivial⟩
                · (try dsimp only); omega
              · skip
                refine V.skip ?_
                refine VE.block_normal ?_
                refine VE.then_wp ?_
                refine V.region ?_
                refine VL.r (.inl rfl) rfl (by decide) (yr_int rfl rfl rfl (.inl ⟨rfl, wrap_in (by omega)⟩)) ?_
                refine VL.r (.inl rfl) rfl (by decide) (yr_move rfl rfl) ?_
                refine VL.nil ?_
                refine VE.round (x + 1) ?_ ?_ ?_ ?_ ?_
                · exact (.cons (congrArg (fun n => some (Value.float .f32 n)) (by rw [wbI_in (by omega) (by omega) (by omega) hge.1 hge.2.1]; first | exact (wbN_yes (by assumption) (by assumption)).symm | exact (wbN_no1 (by assumption)).symm | exact (wbN_no2 (by assumption)).symm)) (.cons rfl .nil))
                · exact (.cons rfl (.cons rfl (.cons rfl (.cons rfl (.cons rfl (.cons rfl (.cons rfl (.cons rfl (.cons rfl (.cons rfl (.cons rfl (.cons rfl .nil))))))))))))
                · exact (fun w hw => by first | exact hw.sub ((List.sublist_cons_self _ _).trans (List.sublist_cons_self _ _)) | exact hw.sub (List.sublist_cons_self _ _))
                · exact ⟨by omega, trivial⟩
                · (try dsimp only); omega
          · skip
            replace h6 := ic_lss' h6
            refine V.exit ?_
            refine VE.then_exit ?_
            refine VE.then_exit ?_
            refine VE.block_here ?_
            refine VE.block_normal ?_
            refine VE.then_wp ?_
            refine V.region ?_
            refine VL.r (.inl rfl) rfl (by decide) (yr_int rfl rfl rfl (.inl ⟨rfl, wrap_in (by omega)⟩)) ?_
            refine VL.r (.inl rfl) rfl (by decide) (yr_move rfl rfl) ?_
            refine VL.nil ?_
            refine VE.round (y + 1) ?_ ?_ ?_ ?_ ?_
            · exact (.cons (congrArg (fun n => some (Value.float .f32 n)) (by rw [show x = hvN W from by omega, wbU_xn hge.1])) (.cons rfl .nil))
            · exact (.cons rfl (.cons rfl (.cons rfl (.cons rfl (.cons rfl (.cons rfl (.cons rfl (.cons rfl .nil))))))))
            · exact (fun w hw => hw.sub (List.sublist_cons_self _ _))
            · exact ⟨by omega, trivial⟩
            · (try dsimp only); omega
        · skip
          replace h5 := ic_lss' h5
          refine V.exit ?_
          refine VE.then_exit ?_
          refine VE.then_exit ?_
          refine VE.block_here ?_
          refine VE.block_normal ?_
          refine VE.then_wp ?_
          refine V.region ?_
          refine VL.r (.inl rfl) rfl (by decide) (yr_int rfl rfl rfl (.inl ⟨rfl, wrap_in (by omega)⟩)) ?_
          refine VL.r (.inl rfl) rfl (by decide) (yr_move rfl rfl) ?_
          refine VL.nil ?_
          refine VE.round (z + 1) ?_ ?_ ?_ ?_ ?_
          · exact (.cons (congrArg (fun n => some (Value.float .f32 n)) (by rw [show y = hvN H from by omega, wbU_yn hge.2.1])) (.cons rfl .nil))
          · exact (.cons rfl (.cons rfl (.cons rfl (.cons rfl .nil))))
          · exact (fun w hw => hw.sub (List.sublist_cons_self _ _))
          · exact ⟨by omega, trivial⟩
          · (try dsimp only); omega
      · skip
        replace h4 := ic_lss' h4
        refine V.exit ?_
        refine VE.then_exit ?_
        refine VE.then_exit ?_
        refine VE.block_here ?_
        refine VE.then_wp ?_
        refine V.seq ?_
        refine V.region ?_
        refine VL.r (.inl rfl) rfl (by decide) (yr_move rfl rfl) ?_
        refine VL.q (.inl rfl) rfl (by decide) (yq_callf rfl known34_WbM (.cons rfl .nil) (fun w hw => c_ifNum)) ?_
        refine VL.r (.inl rfl) rfl (by decide) (yr_extract rfl rfl rfl (by nofun)) ?_
        refine VL.r (.inl rfl) rfl (by decide) (yr_extract rfl rfl rfl (by nofun)) ?_
        refine VL.r (.inl rfl) rfl (by decide) (yr_assign rfl rfl) ?_
        refine VL.r (.inl rfl) rfl (by decide) (yr_assign rfl rfl) ?_
        refine VL.nil ?_
        refine VE.then_wp ?_
        refine V.ret ?_
        refine ret2 rfl rfl rfl (by nofun) (by nofun) (fun w1 hw => ?_)
        first
          | (obtain rfl : z = hvN D := by omega
             have hE : wbL ws vs (f1, f2, f3) st (W : Int) (H : Int) (D : Int) = (wbU ws vs (f1, f2, f3) st W H D (nd W H 0 0 (hvN D))) := wbU_zn hge.1 hge.2.1
             cases hf : fin (wbU ws vs (f1, f2, f3) st W H D (nd W H 0 0 (hvN D))) with
             | false =>
               have hs : wbOk ws vs (f1, f2, f3) st (W : Int) (H : Int) (D : Int) = false := wb_no3 (by rw [hE]; exact hf)
               exact ⟨by rw [wbD_no hs, hs]; rfl, hw.below⟩
             | true =>
               have hs : wbOk ws vs (f1, f2, f3) st (W : Int) (H : Int) (D : Int) = true := wb_yes (by assumption) hok (by rw [hE]; exact hf)
               exact ⟨by rw [wbD_yes hs, hs, hE]; rfl, hw.below⟩)
          | (have hs : wbOk ws vs (f1, f2, f3) st wi hi de = false := by first | exact wb_no1 (by assumption) | exact wb_no2 (by assumption)); (exact ⟨by rw [wbD_no hs, hs], hw.below⟩)

end Go.Proofs.Ytfeciemlhiclbaa


namespace Go.Proofs.Ytfeciemlhiclbaa
open Go.RowKit
set_option linter.unusedVariables false
set_option linter.unusedSimpArgs false
set_option maxRecDepth 20000

theorem sz2_Src : (Try.prog.info? 2).map (·.size) = some 1 := by kernel_rfl
theorem fb2_Src : flatB Try.prog 2 = true := by kernel_rfl
theorem known28_Src : Known Try.prog 28 := Known.mk' Try.func28 (by kernel_rfl)
theorem mixed_Src : Try.prog.follows .mixedOrders = true := by kernel_rfl
theorem sz35_Src : (Try.prog.info? 35).map (·.size) = some 8 := by kernel_rfl
theorem known29_Src : Known Try.prog 29 := Known.mk' Try.func29 (by kernel_rfl)
theorem fb25_Src : flatB Try.prog 25 = true := by kernel_rfl
theorem fb46_Src : flatB Try.prog 46 = true := by kernel_rfl
theorem elt25_Src : Elt Try.prog 25 [Value.float .f32 0] 4 := Elt.mk' (by kernel_rfl) (by decide)
theorem sz46_Src : (Try.prog.info? 46).map (·.size) = some 1 := by kernel_rfl
theorem known8_Src : Known Try.prog 8 := Known.mk' Try.func8 (by kernel_rfl)
theorem zero46_Src : (Try.prog.info? 46).bind (·.zero) = some (Value.slice none 0 0) := by kernel_rfl
theorem sz25_Src : (Try.prog.info? 25).map (·.size) = some 1 := by kernel_rfl
theorem zero25_Src : (Try.prog.info? 25).bind (·.zero) = some (Value.float .f32 0) := by kernel_rfl
theorem known35_Src : Known Try.prog 35 := Known.mk' Try.func35 (by kernel_rfl)
theorem known22_Src : Known Try.prog 22 := Known.mk' Try.func22 (by kernel_rfl)
theorem known36_Src : Known Try.prog 36 := Known.mk' Try.func36 (by kernel_rfl)
attribute [local irreducible] fop fcmp fconv sqrt32 fneg List.getD

theorem c_srcNode {w0 : World} {f1 f2 f3 st W H D : Nat} {a : Option Addr} {c : Nat} {vs : List V3} {x y z tw bm bb bo : Nat} {ar : Option Addr} {cr : Nat} (hA : Cl w0 a (vl vs)) (hN : vs.length = W * H * D) (hbd : W * H * D ≤ 216) (hle : W ≤ 216 ∧ H ≤ 216 ∧ D ≤ 216) (hx : x < W) (hy : y < H) (hz : z < D) : Mut Try.prog 35 [.int .i64 (x : Int), .int .i64 (y : Int), .int .i64 (z : Int), .pointer (some (adr (some ⟨bm, 0, none⟩) 0)), .pointer (some (adr (some ⟨bb, 0, none⟩) 0)), .pointer (some (adr (some ⟨bo, 0, none⟩) 0))] w0 [⟨some ⟨bm, 0, none⟩, [.float .f32 f1, .float .f32 f2, .float .f32 f3, .float .f32 st, .int .i64 (W : Int), .int .i64 (H : Int), .int .i64 (D : Int), .slice a vs.length c], 8, 35⟩, ⟨some ⟨bb, 0, none⟩, [.float .f32 tw], 1, 25⟩, ⟨some ⟨bo, 0, none⟩, [.slice ar (srcU vs W H D tw (nd W H x y z)).length cr], 1, 46⟩, ⟨ar, fl (srcU vs W H D tw (nd W H x y z)), cr * 1, 25⟩] (fun _ : Option Addr × Nat => .tuple #[]) (fun p => [⟨some ⟨bm, 0, none⟩, [.float .f32 f1, .float .f32 f2, .float .f32 f3, .float .f32 st, .int .i64 (W : Int), .int .i64 (H : Int), .int .i64 (D : Int), .slice a vs.length c], 8, 35⟩, ⟨some ⟨bb, 0, none⟩, [.float .f32 tw], 1, 25⟩, ⟨some ⟨bo, 0, none⟩, [.slice p.1 (srcU vs W H D tw (nd W H x y z + 1)).length p.2], 1, 46⟩, ⟨p.1, fl (srcU vs W H D tw (nd W H x y z + 1)), p.2 * 1, 25⟩]) := by
  refine Mut.enter Try.func35 rfl Try.ntmps35 (Nat.le_of_ble_eq_true rfl) ?_
  intro F
  have hnd := nd_facts (W := W) (H := H) (D := D) (x := x) (y := y) (z := z) (by omega) (by omega) (by omega) hbd
  have hl8 := srcU_length (vs := vs) (W := W) (H := H) (D := D) (tw := tw) (nd W H x y z)
  refine V.seq ?_
  refine V.seq ?_
  refine V.region ?_
  refine VL.r (.inl rfl) rfl (by decide) (yr_move rfl rfl) ?_
  refine VL.r (.inl rfl) rfl (by decide) (yr_fieldAddr rfl Try.underlying35 rfl rfl sz2_Src (by decide) rfl) ?_
  refine VL.q (.inl rfl) rfl (by decide) (yq_load rfl fb2_Src rfl (by first | exact Sees.root (by assumption) | exact Sees.own (by repeat (first | exact List.mem_cons_self | exact List.mem_append_left _ (by assumption) | apply List.mem_cons_of_mem | apply List.mem_append_right)) | exact Sees.root (hR _ (by omega)) | exact Sees.own (RowsIn.mem (by repeat (first | exact RowsIn.here | exact RowsIn.last | apply RowsIn.there | apply RowsIn.thereS)) _ (by omega)) | exact Sees.own (WRowsIn.mem (by repeat (first | exact WRowsIn.here | exact WRowsIn.last | apply WRowsIn.there | apply WRowsIn.thereS)) _ (by omega))) rfl) ?_
  refine VL.r (.inl rfl) rfl (by decide) (yr_int rfl rfl rfl (.inr (.inl ⟨rfl, wrap_in (by omega)⟩))) ?_
  refine VL.q (.inl rfl) rfl (by decide) (yq_callf rfl known28_Src (.cons rfl (.cons rfl (.cons rfl .nil))) (fun w hw => c_within)) ?_
  refine VL.r (.inl rfl) rfl (by decide) (yr_not rfl rfl) ?_
  refine VL.r (.inl rfl) rfl (by decide) (yr_move rfl rfl) ?_
  refine VX.split 16 _ rfl (fun h1 => ?_) (fun h1 => ?_)
  · skip
    replace h1 := bnot_t h1
    have gx := of_decide_eq_false h1
    refine VL.no rfl rfl rfl rfl rfl (by decide) ?_
    refine VL.no rfl rfl rfl rfl rfl (by decide) ?_
    refine VL.no rfl rfl rfl rfl rfl (by decide) ?_
    refine VL.no rfl rfl rfl rfl rfl (by decide) ?_
    refine VL.no rfl rfl rfl rfl rfl (by decide) ?_
    refine VL.no rfl rfl rfl rfl rfl (by decide) ?_
    refine VL.r (.inl rfl) rfl (by decide) (yr_pick_t (u := .bool true) rfl rfl rfl) ?_
    refine VL.r (.inl rfl) rfl (by decide) (yr_move rfl rfl) ?_
    refine VL.no rfl rfl rfl rfl rfl (by decide) ?_
    refine VL.no rfl rfl rfl rfl rfl (by decide) ?_
    refine VL.no rfl rfl rfl rfl rfl (by decide) ?_
    refine VL.no rfl rfl rfl rfl rfl (by decide) ?_
    refine VL.no rfl rfl rfl rfl rfl (by decide) ?_
    refine VL.no rfl rfl rfl rfl rfl (by decide) ?_
    refine VL.r (.inl rfl) rfl (by decide) (yr_pick_t (u := .bool true) rfl rfl rfl) ?_
    refine VL.nil ?_
    refine VE.then_wp ?_
    refine V.condT rfl ?_
    refine V.ret ?_
    refine VE.then_ret ?_
    refine ret0 rfl (fun w1 hw => ?_)
    first
      | (have h8 := hw.sub (List.sublist_cons_self _ _)
         refine ⟨(a92, c92), rfl, ?_⟩
         rw [srcU_in hx hy ⟨by omega, by omega, by omega, by omega, by omega, by omega⟩, List.length_append, ← fl_snoc]
         exact h8)
      | exact ⟨(ar, cr), rfl, by rw [srcU_out hx hy (by omega)]; exact hw⟩
  · skip
    replace h1 := bnot_f h1
    have gx := of_decide_eq_true h1
    refine VL.r (.inr ⟨_, _, _, rfl, rfl, rfl⟩) rfl (by decide) (yr_move rfl rfl) ?_
    refine VL.r (.inr ⟨_, _, _, rfl, rfl, rfl⟩) rfl (by decide) (yr_fieldAddr rfl Try.underlying35 rfl rfl sz2_Src (by decide) rfl) ?_
    refine VL.q (.inr ⟨_, _, _, rfl, rfl, rfl⟩) rfl (by decide) (yq_load rfl fb2_Src rfl (by first | exact Sees.root (by assumption) | exact Sees.own (by repeat (first | exact List.mem_cons_self | exact List.mem_append_left _ (by assumption) | apply List.mem_cons_of_mem | apply List.mem_append_right)) | exact Sees.root (hR _ (by omega)) | exact Sees.own (RowsIn.mem (by repeat (first | exact RowsIn.here | exact RowsIn.last | apply RowsIn.there | apply RowsIn.thereS)) _ (by omega)) | exact Sees.own (WRowsIn.mem (by repeat (first | exact WRowsIn.here | exact WRowsIn.last | apply WRowsIn.there | apply WRowsIn.thereS)) _ (by omega))) rfl) ?_
    refine VL.r (.inr ⟨_, _, _, rfl, rfl, rfl⟩) rfl (by decide) (yr_int rfl rfl rfl (.inr (.inl ⟨rfl, wrap_in (by omega)⟩))) ?_
    refine VL.q (.inr ⟨_, _, _, rfl, rfl, rfl⟩) rfl (by decide) (yq_callf rfl known28_Src (.cons rfl (.cons rfl (.cons rfl .nil))) (fun w hw => c_within)) ?_
    refine VL.r (.inr ⟨_, _, _, rfl, rfl, rfl⟩) rfl (by decide) (yr_not rfl rfl) ?_
    refine VL.r (.inl rfl) rfl (by decide) (yr_pick_f rfl rfl rfl) ?_
    refine VL.r (.inl rfl) rfl (by decide) (yr_move rfl rfl) ?_
    refine VX.split 24 _ rfl (fun h3 => ?_) (fun h3 => ?_)
    · skip
      replace h3 := bnot_t h3
      have gy := of_decide_eq_false h3
      refine VL.no rfl rfl rfl rfl rfl (by decide) ?_
      refine VL.no rfl rfl rfl rfl rfl (by decide) ?_
      refine VL.no rfl rfl rfl rfl rfl (by decide) ?_
      refine VL.no rfl rfl rfl rfl rfl (by decide) ?_
      refine VL.no rfl rfl rfl rfl rfl (by decide) ?_
      refine VL.no rfl rfl rfl rfl rfl (by decide) ?_
      refine VL.r (.inl rfl) rfl (by decide) (yr_pick_t (u := .bool true) rfl rfl rfl) ?_
      refine VL.nil ?_
      refine VE.then_wp ?_
      refine V.condT rfl ?_
      refine V.ret ?_
      refine VE.then_ret ?_
      refine ret0 rfl (fun w1 hw => ?_)
      first
        | (have h8 := hw.sub (List.sublist_cons_self _ _)
           refine ⟨(a92, c92), rfl, ?_⟩
           rw [srcU_in hx hy ⟨by omega, by omega, by omega, by omega, by omega, by omega⟩, List.length_append, ← fl_snoc]
           exact h8)
        | exact ⟨(ar, cr), rfl, by rw [srcU_out hx hy (by omega)]; exact hw⟩
    · skip
      replace h3 := bnot_f h3
      have gy := of_decide_eq_true h3
      refine VL.r (.inr ⟨_, _, _, rfl, rfl, rfl⟩) rfl (by decide) (yr_move rfl rfl) ?_
      refine VL.r (.inr ⟨_, _, _, rfl, rfl, rfl⟩) rfl (by decide) (yr_fieldAddr rfl Try.underlying35 rfl rfl sz2_Src (by decide) rfl) ?_
      refine VL.q (.inr ⟨_, _, _, rfl, rfl, rfl⟩) rfl (by decide) (yq_load rfl fb2_Src rfl (by first | exact Sees.root (by assumption) | exact Sees.own (by repeat (first | exact List.mem_cons_self | exact List.mem_append_left _ (by assumption) | apply List.mem_cons_of_mem | apply List.mem_append_right)) | exact Sees.root (hR _ (by omega)) | exact Sees.own (RowsIn.mem (by repeat (first | exact RowsIn.here | exact RowsIn.last | apply RowsIn.there | apply RowsIn.thereS)) _ (by omega)) | exact Sees.own (WRowsIn.mem (by repeat (first | exact WRowsIn.here | exact WRowsIn.last | apply WRowsIn.there | apply WRowsIn.thereS)) _ (by omega))) rfl) ?_
      refine VL.r (.inr ⟨_, _, _, rfl, rfl, rfl⟩) rfl (by decide) (yr_int rfl rfl rfl (.inr (.inl ⟨rfl, wrap_in (by omega)⟩))) ?_
      refine VL.q (.inr ⟨_, _, _, rfl, rfl, rfl⟩) rfl (by decide) (yq_callf rfl known28_Src (.cons rfl (.cons rfl (.cons rfl .nil))) (fun w hw => c_within)) ?_
      refine VL.r (.inr ⟨_, _, _, rfl, rfl, rfl⟩) rfl (by decide) (yr_not rfl rfl) ?_
      refine VL.r (.inl rfl) rfl (by decide) (yr_pick_f rfl rfl rfl) ?_
      refine VL.nil ?_
      refine VE.then_wp ?_
      refine V.cond rfl (fun h5 => ?_) (fun h5 => ?_)
      · skip
        replace h5 := bnot_t h5
        have gz := of_decide_eq_false h5
        refine V.ret ?_
        refine VE.then_ret ?_
        refine ret0 rfl (fun w1 hw => ?_)
        first
          | (have h8 := hw.sub (List.sublist_cons_self _ _)
             refine ⟨(a92, c92), rfl, ?_⟩
             rw [srcU_in hx hy ⟨by omega, by omega, by omega, by omega, by omega, by omega⟩, List.length_append, ← fl_snoc]
             exact h8)
          | exact ⟨(ar, cr), rfl, by rw [srcU_out hx hy (by omega)]; exact hw⟩
      · skip
        replace h5 := bnot_f h5
        have gz := of_decide_eq_true h5
        refine V.skip ?_
        refine VE.then_wp ?_
        refine V.seq ?_
        refine V.region ?_
        refine VL.r (.inl rfl) rfl (by decide) (yr_assign (u := .float .f32 0) rfl rfl) ?_
        refine VL.nil ?_
        refine VE.then_wp ?_
        refine V.seq ?_
        refine V.draw [(0, 0), (1, 0), (2, 0), (3, 0), (4, 0), (5, 0), (6, 0), (7, 0), (8, 0), (9, 0), (10, 0), (11, 0), (12, 0), (13, 0), (14, 0), (15, 0), (16, 0), (17, 0), (18, 0), (19, 0)] mixed_Src (by kernel_rfl) (by intro j o hj; simp at hj) ?_
        refine SW.r rfl (.inl rfl) rfl (by decide) (yr_move rfl rfl) ?_
        refine SW.q rfl (.inl rfl) rfl (by decide) (yq_loadS rfl Try.underlying35 sz35_Src rfl (by first | exact Sees.root (by assumption) | exact Sees.own (by repeat (first | exact List.mem_cons_self | exact List.mem_append_left _ (by assumption) | apply List.mem_cons_of_mem | apply List.mem_append_right)) | exact Sees.root (hR _ (by omega)) | exact Sees.own (RowsIn.mem (by repeat (first | exact RowsIn.here | exact RowsIn.last | apply RowsIn.there | apply RowsIn.thereS)) _ (by omega)) | exact Sees.own (WRowsIn.mem (by repeat (first | exact WRowsIn.here | exact WRowsIn.last | apply WRowsIn.there | apply WRowsIn.thereS)) _ (by omega))) rfl rfl rfl) ?_
        refine SW.r rfl (.inl rfl) rfl (by decide) (yr_move rfl rfl) ?_
        refine SW.r rfl (.inl rfl) rfl (by decide) (yr_addN (x + 1) rfl rfl rfl (by omega) (by omega)) ?_
        refine SW.r rfl (.inl rfl) rfl (by decide) (yr_move rfl rfl) ?_
        refine SW.r rfl (.inl rfl) rfl (by decide) (yr_move rfl rfl) ?_
        refine SW.q rfl (.inl rfl) rfl (by decide) (yq_callf rfl known29_Src (.cons rfl (.cons rfl (.cons rfl (.cons rfl .nil)))) (fun w hw => (c_at (x := x + 1) (y := y) (z := z) (by first | exact Sees.root (by assumption) w hw | exact Sees.own (by repeat (first | exact List.mem_cons_self | exact List.mem_append_left _ (by assumption) | apply List.mem_cons_of_mem | apply List.mem_append_right)) w hw) hN hbd (by omega) (by omega) (by omega)))) ?_
        refine SW.r rfl (.inl rfl) rfl (by decide) (yr_field rfl Try.underlying32 rfl rfl fb25_Src rfl rfl rfl) ?_
        refine SW.q rfl (.inl rfl) rfl (by decide) (yq_loadS rfl Try.underlying35 sz35_Src rfl (by first | exact Sees.root (by assumption) | exact Sees.own (by repeat (first | exact List.mem_cons_self | exact List.mem_append_left _ (by assumption) | apply List.mem_cons_of_mem | apply List.mem_append_right)) | exact Sees.root (hR _ (by omega)) | exact Sees.own (RowsIn.mem (by repeat (first | exact RowsIn.here | exact RowsIn.last | apply RowsIn.there | apply RowsIn.thereS)) _ (by omega)) | exact Sees.own (WRowsIn.mem (by repeat (first | exact WRowsIn.here | exact WRowsIn.last | apply WRowsIn.there | apply WRowsIn.thereS)) _ (by omega))) rfl rfl rfl) ?_
        refine SW.r rfl (.inl rfl) rfl (by decide) (yr_move rfl rfl) ?_
        refine SW.r rfl (.inl rfl) rfl (by decide) (yr_subN (x - 1) rfl rfl rfl (by omega) (by omega)) ?_
        refine SW.r rfl (.inl rfl) rfl (by decide) (yr_move rfl rfl) ?_
        refine SW.r rfl (.inl rfl) rfl (by decide) (yr_move rfl rfl) ?_
        refine SW.q rfl (.inl rfl) rfl (by decide) (yq_callf rfl known29_Src (.cons rfl (.cons rfl (.cons rfl (.cons rfl .nil)))) (fun w hw => (c_at (x := x - 1) (y := y) (z := z) (by first | exact Sees.root (by assumption) w hw | exact Sees.own (by repeat (first | exact List.mem_cons_self | exact List.mem_append_left _ (by assumption) | apply List.mem_cons_of_mem | apply List.mem_append_right)) w hw) hN hbd (by omega) (by omega) (by omega)))) ?_
        refine SW.r rfl (.inl rfl) rfl (by decide) (yr_field rfl Try.underlying32 rfl rfl fb25_Src rfl rfl rfl) ?_
        refine SW.r rfl (.inl rfl) rfl (by decide) (yr_float rfl (.inr (.inl rfl)) rfl rfl) ?_
        refine SW.q rfl (.inl rfl) rfl (by decide) (yq_load rfl fb25_Src rfl (by first | exact Sees.root (by assumption) | exact Sees.own (by repeat (first | exact List.mem_cons_self | exact List.mem_append_left _ (by assumption) | apply List.mem_cons_of_mem | apply List.mem_append_right)) | exact Sees.root (hR _ (by omega)) | exact Sees.own (RowsIn.mem (by repeat (first | exact RowsIn.here | exact RowsIn.last | apply RowsIn.there | apply RowsIn.thereS)) _ (by omega)) | exact Sees.own (WRowsIn.mem (by repeat (first | exact WRowsIn.here | exact WRowsIn.last | apply WRowsIn.there | apply WRowsIn.thereS)) _ (by omega))) rfl) ?_
        refine SW.r rfl (.inl rfl) rfl (by decide) (yr_float rfl (.inr (.inr (.inr rfl))) rfl rfl) ?_
        refine SW.r rfl (.inl rfl) rfl (by decide) (yr_float rfl (.inl rfl) rfl rfl) ?_
        refine SW.r rfl (.inl rfl) rfl (by decide) (yr_assign rfl rfl) ?_
        refine SW.done ?_
        refine VE.then_wp ?_
        refine V.seq ?_
        refine V.draw [(0, 0), (1, 0), (2, 0), (3, 0), (4, 0), (5, 0), (6, 0), (7, 0), (8, 0), (9, 0), (10, 0), (11, 0), (12, 0), (13, 0), (14, 0), (15, 0), (16, 0), (17, 0), (18, 0), (19, 0)] mixed_Src (by kernel_rfl) (by intro j o hj; simp at hj) ?_
        refine SW.r rfl (.inl rfl) rfl (by decide) (yr_move rfl rfl) ?_
        refine SW.q rfl (.inl rfl) rfl (by decide) (yq_loadS rfl Try.underlying35 sz35_Src rfl (by first | exact Sees.root (by assumption) | exact Sees.own (by repeat (first | exact List.mem_cons_self | exact List.mem_append_left _ (by assumption) | apply List.mem_cons_of_mem | apply List.mem_append_right)) | exact Sees.root (hR _ (by omega)) | exact Sees.own (RowsIn.mem (by repeat (first | exact RowsIn.here | exact RowsIn.last | apply RowsIn.there | apply RowsIn.thereS)) _ (by omega)) | exact Sees.own (WRowsIn.mem (by repeat (first | exact WRowsIn.here | exact WRowsIn.last | apply WRowsIn.there | apply WRowsIn.thereS)) _ (by omega))) rfl rfl rfl) ?_
        refine SW.r rfl (.inl rfl) rfl (by decide) (yr_move rfl rfl) ?_
        refine SW.r rfl (.inl rfl) rfl (by decide) (yr_move rfl rfl) ?_
        refine SW.r rfl (.inl rfl) rfl (by decide) (yr_addN (y + 1) rfl rfl rfl (by omega) (by omega)) ?_
        refine SW.r rfl (.inl rfl) rfl (by decide) (yr_move rfl rfl) ?_
        refine SW.q rfl (.inl rfl) rfl (by decide) (yq_callf rfl known29_Src (.cons rfl (.cons rfl (.cons rfl (.cons rfl .nil)))) (fun w hw => (c_at (x := x) (y := y + 1) (z := z) (by first | exact Sees.root (by assumption) w hw | exact Sees.own (by repeat (first | exact List.mem_cons_self | exact List.mem_append_left _ (by assumption) | apply List.mem_cons_of_mem | apply List.mem_append_right)) w hw) hN hbd (by omega) (by omega) (by omega)))) ?_
        refine SW.r rfl (.inl rfl) rfl (by decide) (yr_field rfl Try.underlying32 rfl rfl fb25_Src rfl rfl rfl) ?_
        refine SW.q rfl (.inl rfl) rfl (by decide) (yq_loadS rfl Try.underlying35 sz35_Src rfl (by first | exact Sees.root (by assumption) | exact Sees.own (by repeat (first | exact List.mem_cons_self | exact List.mem_append_left _ (by assumption) | apply List.mem_cons_of_mem | apply List.mem_append_right)) | exact Sees.root (hR _ (by omega)) | exact Sees.own (RowsIn.mem (by repeat (first | exact RowsIn.here | exact RowsIn.last | apply RowsIn.there | apply RowsIn.thereS)) _ (by omega)) | exact Sees.own (WRowsIn.mem (by repeat (first | exact WRowsIn.here | exact WRowsIn.last | apply WRowsIn.there | apply WRowsIn.thereS)) _ (by omega))) rfl rfl rfl) ?_
        refine SW.r rfl (.inl rfl) rfl (by decide) (yr_move rfl rfl) ?_
        refine SW.r rfl (.inl rfl) rfl (by decide) (yr_move rfl rfl) ?_
        refine SW.r rfl (.inl rfl) rfl (by decide) (yr_subN (y - 1) rfl rfl rfl (by omega) (by omega)) ?_
        refine SW.r rfl (.inl rfl) rfl (by decide) (yr_move rfl rfl) ?_
        refine SW.q rfl (.inl rfl) rfl (by decide) (yq_callf rfl known29_Src (.cons rfl (.cons rfl (.cons rfl (.cons rfl .nil)))) (fun w hw => (c_at (x := x) (y := y - 1) (z := z) (by first | exact Sees.root (by assumption) w hw | exact Sees.own (by repeat (first | exact List.mem_cons_self | exact List.mem_append_left _ (by assumption) | apply List.mem_cons_of_mem | apply List.mem_append_right)) w hw) hN hbd (by omega) (by omega) (by omega)))) ?_
        refine SW.r rfl (.inl rfl) rfl (by decide) (yr_field rfl Try.underlying32 rfl rfl fb25_Src rfl rfl rfl) ?_
        refine SW.r rfl (.inl rfl) rfl (by decide) (yr_float rfl (.inr (.inl rfl)) rfl rfl) ?_
        refine SW.q rfl (.inl rfl) rfl (by decide) (yq_load rfl fb25_Src rfl (by first | exact Sees.root (by assumption) | exact Sees.own (by repeat (first | exact List.mem_cons_self | exact List.mem_append_left _ (by assumption) | apply List.mem_cons_of_mem | apply List.mem_append_right)) | exact Sees.root (hR _ (by omega)) | exact Sees.own (RowsIn.mem (by repeat (first | exact RowsIn.here | exact RowsIn.last | apply RowsIn.there | apply RowsIn.thereS)) _ (by omega)) | exact Sees.own (WRowsIn.mem (by repeat (first | exact WRowsIn.here | exact WRowsIn.last | apply WRowsIn.there | apply WRowsIn.thereS)) _ (by omega))) rfl) ?_
        refine SW.r rfl (.inl rfl) rfl (by decide) (yr_float rfl (.inr (.inr (.inr rfl))) rfl rfl) ?_
        refine SW.r rfl (.inl rfl) rfl (by decide) (yr_float rfl (.inl rfl) rfl rfl) ?_
        refine SW.r rfl (.inl rfl) rfl (by decide) (yr_assign rfl rfl) ?_
        refine SW.done ?_
        refine VE.then_wp ?_
        refine V.seq ?_
        refine V.draw [(0, 0), (1, 0), (2, 0), (3, 0), (4, 0), (5, 0), (6, 0), (7, 0), (8, 0), (9, 0), (10, 0), (11, 0), (12, 0), (13, 0), (14, 0), (15, 0), (16, 0), (17, 0), (18, 0), (19, 0)] mixed_Src (by kernel_rfl) (by intro j o hj; simp at hj) ?_
        refine SW.r rfl (.inl rfl) rfl (by decide) (yr_move rfl rfl) ?_
        refine SW.q rfl (.inl rfl) rfl (by decide) (yq_loadS rfl Try.underlying35 sz35_Src rfl (by first | exact Sees.root (by assumption) | exact Sees.own (by repeat (first | exact List.mem_cons_self | exact List.mem_append_left _ (by assumption) | apply List.mem_cons_of_mem | apply List.mem_append_right)) | exact Sees.root (hR _ (by omega)) | exact Sees.own (RowsIn.mem (by repeat (first | exact RowsIn.here | exact RowsIn.last | apply RowsIn.there | apply RowsIn.thereS)) _ (by omega)) | exact Sees.own (WRowsIn.mem (by repeat (first | exact WRowsIn.here | exact WRowsIn.last | apply WRowsIn.there | apply WRowsIn.thereS)) _ (by omega))) rfl rfl rfl) ?_
        refine SW.r rfl (.inl rfl) rfl (by decide) (yr_move rfl rfl) ?_
        refine SW.r rfl (.inl rfl) rfl (by decide) (yr_move rfl rfl) ?_
        refine SW.r rfl (.inl rfl) rfl (by decide) (yr_move rfl rfl) ?_
        refine SW.r rfl (.inl rfl) rfl (by decide) (yr_addN (z + 1) rfl rfl rfl (by omega) (by omega)) ?_
        refine SW.q rfl (.inl rfl) rfl (by decide) (yq_callf rfl known29_Src (.cons rfl (.cons rfl (.cons rfl (.cons rfl .nil)))) (fun w hw => (c_at (x := x) (y := y) (z := z + 1) (by first | exact Sees.root (by assumption) w hw | exact Sees.own (by repeat (first | exact List.mem_cons_self | exact List.mem_append_left _ (by assumption) | apply List.mem_cons_of_mem | apply List.mem_append_right)) w hw) hN hbd (by omega) (by omega) (by omega)))) ?_
        refine SW.r rfl (.inl rfl) rfl (by decide) (yr_field rfl Try.underlying32 rfl rfl fb25_Src rfl rfl rfl) ?_
        refine SW.q rfl (.inl rfl) rfl (by decide) (yq_loadS rfl Try.underlying35 sz35_Src rfl (by first | exact Sees.root (by assumption) | exact Sees.own (by repeat (first | exact List.mem_cons_self | exact List.mem_append_left _ (by assumption) | apply List.mem_cons_of_mem | apply List.mem_append_right)) | exact Sees.root (hR _ (by omega)) | exact Sees.own (RowsIn.mem (by repeat (first | exact RowsIn.here | exact RowsIn.last | apply RowsIn.there | apply RowsIn.thereS)) _ (by omega)) | exact Sees.own (WRowsIn.mem (by repeat (first | exact WRowsIn.here | exact WRowsIn.last | apply WRowsIn.there | apply WRowsIn.thereS)) _ (by omega))) rfl rfl rfl) ?_
        refine SW.r rfl (.inl rfl) rfl (by decide) (yr_move rfl rfl) ?_
        refine SW.r rfl (.inl rfl) rfl (by decide) (yr_move rfl rfl) ?_
        refine SW.r rfl (.inl rfl) rfl (by decide) (yr_move rfl rfl) ?_
        refine SW.r rfl (.inl rfl) rfl (by decide) (yr_subN (z - 1) rfl rfl rfl (by omega) (by omega)) ?_
        refine SW.q rfl (.inl rfl) rfl (by decide) (yq_callf rfl known29_Src (.cons rfl (.cons rfl (.cons rfl (.cons rfl .nil)))) (fun w hw => (c_at (x := x) (y := y) (z := z - 1) (by first | exact Sees.root (by assumption) w hw | exact Sees.own (by repeat (first | exact List.mem_cons_self | exact List.mem_append_left _ (by assumption) | apply List.mem_cons_of_mem | apply List.mem_append_right)) w hw) hN hbd (by omega) (by omega) (by omega)))) ?_
        refine SW.r rfl (.inl rfl) rfl (by decide) (yr_field rfl Try.underlying32 rfl rfl fb25_Src rfl rfl rfl) ?_
        refine SW.r rfl (.inl rfl) rfl (by decide) (yr_float rfl (.inr (.inl rfl)) rfl rfl) ?_
        refine SW.q rfl (.inl rfl) rfl (by decide) (yq_load rfl fb25_Src rfl (by first | exact Sees.root (by assumption) | exact Sees.own (by repeat (first | exact List.mem_cons_self | exact List.mem_append_left _ (by assumption) | apply List.mem_cons_of_mem | apply List.mem_append_right)) | exact Sees.root (hR _ (by omega)) | exact Sees.own (RowsIn.mem (by repeat (first | exact RowsIn.here | exact RowsIn.last | apply RowsIn.there | apply RowsIn.thereS)) _ (by omega)) | exact Sees.own (WRowsIn.mem (by repeat (first | exact WRowsIn.here | exact WRowsIn.last | apply WRowsIn.there | apply WRowsIn.thereS)) _ (by omega))) rfl) ?_
        refine SW.r rfl (.inl rfl) rfl (by decide) (yr_float rfl (.inr (.inr (.inr rfl))) rfl rfl) ?_
        refine SW.r rfl (.inl rfl) rfl (by decide) (yr_float rfl (.inl rfl) rfl rfl) ?_
        refine SW.r rfl (.inl rfl) rfl (by decide) (yr_assign rfl rfl) ?_
        refine SW.done ?_
        refine VE.then_wp ?_
        refine V.region ?_
        refine VL.q (.inl rfl) rfl (by decide) (yq_load rfl fb46_Src rfl (by first | exact Sees.root (by assumption) | exact Sees.own (by repeat (first | exact List.mem_cons_self | exact List.mem_append_left _ (by assumption) | apply List.mem_cons_of_mem | apply List.mem_append_right)) | exact Sees.root (hR _ (by omega)) | exact Sees.own (RowsIn.mem (by repeat (first | exact RowsIn.here | exact RowsIn.last | apply RowsIn.there | apply RowsIn.thereS)) _ (by omega)) | exact Sees.own (WRowsIn.mem (by repeat (first | exact WRowsIn.here | exact WRowsIn.last | apply WRowsIn.there | apply WRowsIn.thereS)) _ (by omega))) rfl) ?_
        refine VL.r (.inl rfl) rfl (by decide) (yr_move rfl rfl) ?_
        refine VL.new1 (.inl rfl) rfl (by decide) (yn_lit rfl Try.underlying46 elt25_Src rfl (by decide) (.cons rfl .nil) (by first | (simp; done) | (simp [cn, cn1, cn0]; done)) rfl rfl rfl) ?_
        intro b91
        refine VL.c (.inl rfl) rfl (by decide) (yc_appendz 1 rfl rfl Try.underlying46 elt25_Src rfl rfl (by repeat (first | exact UpdF.here | apply UpdF.there | apply UpdF.thereS)) (by first | exact Sees.root (by assumption) | exact Sees.own (by repeat (first | exact List.mem_cons_self | exact List.mem_append_left _ (by assumption) | apply List.mem_cons_of_mem | apply List.mem_append_right)) | exact Sees.root (hR _ (by omega)) | exact Sees.own (RowsIn.mem (by repeat (first | exact RowsIn.here | exact RowsIn.last | apply RowsIn.there | apply RowsIn.thereS)) _ (by omega)) | exact Sees.own (WRowsIn.mem (by repeat (first | exact WRowsIn.here | exact WRowsIn.last | apply WRowsIn.there | apply WRowsIn.thereS)) _ (by omega))) rfl (by rw [fl_length]; omega) rfl (by first | rfl | exact fl_scal _) (by first | rfl | exact fl_scal _) (by omega) (by omega)) ?_
        rintro ⟨a92, c92⟩
        refine VL.s (.inl rfl) rfl (yc_store rfl sz46_Src rfl rfl (by repeat (first | exact UpdF.here | apply UpdF.there | apply UpdF.thereS)) (.inl ⟨rfl, rfl⟩) rfl (by first | exact Nat.le_of_ble_eq_true rfl | simp) (by decide) rfl) ?_
        rintro ⟨⟩
        refine VL.nil ?_
        refine VE.fall ?_
        refine ret0 rfl (fun w1 hw => ?_)
        first
          | (have h8 := hw.sub (List.sublist_cons_self _ _)
             refine ⟨(a92, c92), rfl, ?_⟩
             rw [srcU_in hx hy ⟨by omega, by omega, by omega, by omega, by omega, by omega⟩, List.length_append, ← fl_snoc]
             exact h8)
          | exact ⟨(ar, cr), rfl, by rw [srcU_out hx hy (by omega)]; exact hw⟩

theorem c_implSrc {w : World} {f1 f2 f3 st : Nat} {wi hi de : Int} {a : Option Addr} {c : Nat} {vs : List V3} (hA : Cl w a (vl vs)) : New Try.prog 13 [.agg #[.float .f32 f1, .float .f32 f2, .float .f32 f3, .float .f32 st, .int .i64 wi, .int .i64 hi, .int .i64 de, .slice a vs.length c]] w (fun p : Option Addr × Nat => .tuple #[.slice p.1 (srcD (f1, f2, f3) st wi hi de vs).length p.2, .bool (srcOk (f1, f2, f3) st wi hi de vs)]) (fun p => [⟨p.1, fl (srcD (f1, f2, f3) st wi hi de vs), p.2 * 1, 25⟩]) := by
  refine New.enter Try.func13 rfl Try.ntmps13 (Nat.le_of_ble_eq_true rfl) ?_
  refine V.seq ?_
  refine V.region ?_
  refine VL.new1 (.inl rfl) rfl (by decide) (yn_box rfl rfl (.inr ⟨rfl, rfl⟩)) ?_
  intro b1
  refine VL.r (.inl rfl) rfl (by decide) (yr_assign (u := .slice none 0 0) rfl rfl) ?_
  refine VL.r (.inl rfl) rfl (by decide) (yr_assign (u := .bool false) rfl rfl) ?_
  refine VL.nil ?_
  refine VE.then_wp ?_
  refine V.seq ?_
  refine V.seq ?_
  refine V.region ?_
  refine VL.q (.inl rfl) rfl (by decide) (yq_loadS rfl Try.underlying35 sz35_Src rfl (by first | exact Sees.root (by assumption) | exact Sees.own (by repeat (first | exact List.mem_cons_self | exact List.mem_append_left _ (by assumption) | apply List.mem_cons_of_mem | apply List.mem_append_right)) | exact Sees.root (hR _ (by omega)) | exact Sees.own (RowsIn.mem (by repeat (first | exact RowsIn.here | exact RowsIn.last | apply RowsIn.there | apply RowsIn.thereS)) _ (by omega)) | exact Sees.own (WRowsIn.mem (by repeat (first | exact WRowsIn.here | exact WRowsIn.last | apply WRowsIn.there | apply WRowsIn.thereS)) _ (by omega))) rfl rfl rfl) ?_
  refine VL.q (.inl rfl) rfl (by decide) (yq_callf rfl known8_Src (.cons rfl .nil) (fun w hw => c_implMesh)) ?_
  refine VL.r (.inl rfl) rfl (by decide) (yr_not rfl rfl) ?_
  refine VL.nil ?_
  refine VE.then_wp ?_
  refine V.cond rfl (fun h1 => ?_) (fun h1 => ?_)
  · skip
    replace h1 := bnot_t h1
    refine V.seq ?_
    refine V.region ?_
    refine VL.r (.inl rfl) rfl (by decide) (yr_assign (u := .slice none 0 0) rfl rfl) ?_
    refine VL.r (.inl rfl) rfl (by decide) (yr_assign (u := .bool false) rfl rfl) ?_
    refine VL.nil ?_
    refine VE.then_wp ?_
    refine V.ret ?_
    refine VE.then_ret ?_
    refine ret2 rfl rfl rfl (by nofun) (by nofun) (fun w1 hw => ?_)
    first
      | (have hs : srcOk (f1, f2, f3) st (W : Int) (H : Int) (D : Int) vs = true := srcOk_yes hok (by rw [he]; assumption)
         rw [srcD_yes hs, hs, he]
         exact ⟨p15, rfl, (hw.pick (by apply Pick.one; repeat (first | exact Rem.here | apply Rem.there))).out1⟩)
      | ((have hs : srcOk (f1, f2, f3) st (W : Int) (H : Int) (D : Int) vs = false := by first | exact srcOk_no1 (by assumption) | exact srcOk_no2 (by rw [he]; assumption)); (exact ⟨(none, 0), by rw [srcD_no hs, hs]; rfl, hw.below, by rw [srcD_no hs]; simp [fl, Ent.at], List.pairwise_singleton _ _⟩))
      | ((have hs : srcOk (f1, f2, f3) st wi hi de vs = false := by first | exact srcOk_no1 (by assumption) | exact srcOk_no2 (by rw [he]; assumption)); (exact ⟨(none, 0), by rw [srcD_no hs, hs]; rfl, hw.below, by rw [srcD_no hs]; simp [fl, Ent.at], List.pairwise_singleton _ _⟩))
  · skip
    replace h1 := bnot_f h1
    have hok := h1
    obtain ⟨W, H, D, rfl, rfl, rfl, hge, hle, hbd, hN⟩ := mesh_open hok
    have he : srcL st (W : Int) (H : Int) (D : Int) vs = srcU vs W H D (srcTw st) (W * H * D) := rfl
    have hl8 := srcU_length (vs := vs) (W := W) (H := H) (D := D) (tw := srcTw st) (W * H * D)
    refine V.skip ?_
    refine VE.then_wp ?_
    refine V.seq ?_
    refine V.region ?_
    refine VL.new1 (.inl rfl) rfl (by decide) (yn_lit rfl Try.underlying46 elt25_Src rfl (by decide) .nil (by first | (simp; done) | (simp [cn, cn1, cn0]; done)) rfl rfl rfl) ?_
    intro b9
    refine VL.new1 (.inl rfl) rfl (by decide) (yn_alloc rfl zero46_Src rfl) ?_
    intro b4
    refine VL.s (.inl rfl) rfl (yc_store rfl sz46_Src rfl rfl (by repeat (first | exact UpdF.here | apply UpdF.there | apply UpdF.thereS)) (.inl ⟨rfl, rfl⟩) rfl (by first | exact Nat.le_of_ble_eq_true rfl | simp) (by decide) rfl) ?_
    rintro ⟨⟩
    refine VL.nil ?_
    refine VE.then_wp ?_
    refine V.seq ?_
    refine V.region ?_
    refine VL.r (.inl rfl) rfl (by decide) (yr_fieldAddr rfl Try.underlying35 rfl rfl sz25_Src (by decide) rfl) ?_
    refine VL.q (.inl rfl) rfl (by decide) (yq_load rfl fb25_Src rfl (by first | exact Sees.root (by assumption) | exact Sees.own (by repeat (first | exact List.mem_cons_self | exact List.mem_append_left _ (by assumption) | apply List.mem_cons_of_mem | apply List.mem_append_right)) | exact Sees.root (hR _ (by omega)) | exact Sees.own (RowsIn.mem (by repeat (first | exact RowsIn.here | exact RowsIn.last | apply RowsIn.there | apply RowsIn.thereS)) _ (by omega)) | exact Sees.own (WRowsIn.mem (by repeat (first | exact WRowsIn.here | exact WRowsIn.last | apply WRowsIn.there | apply WRowsIn.thereS)) _ (by omega))) rfl) ?_
    refine VL.r (.inl rfl) rfl (by decide) (yr_float (a := 1073741824) rfl (.inr (.inr (.inl rfl))) rfl rfl) ?_
    refine VL.new1 (.inl rfl) rfl (by decide) (yn_alloc rfl zero25_Src rfl) ?_
    intro b5
    refine VL.s (.inl rfl) rfl (yc_store rfl sz25_Src rfl rfl (by repeat (first | exact UpdF.here | apply UpdF.there | apply UpdF.thereS)) (.inl ⟨rfl, rfl⟩) rfl (by first | exact Nat.le_of_ble_eq_true rfl | simp) (by decide) rfl) ?_
    rintro ⟨⟩
    refine VL.nil ?_
    refine VE.then_wp ?_
    refine V.seq ?_
    refine V.region ?_
    refine VL.q (.inl rfl) rfl (by decide) (yq_loadS rfl Try.underlying35 sz35_Src rfl (by first | exact Sees.root (by assumption) | exact Sees.own (by repeat (first | exact List.mem_cons_self | exact List.mem_append_left _ (by assumption) | apply List.mem_cons_of_mem | apply List.mem_append_right)) | exact Sees.root (hR _ (by omega)) | exact Sees.own (RowsIn.mem (by repeat (first | exact RowsIn.here | exact RowsIn.last | apply RowsIn.there | apply RowsIn.thereS)) _ (by omega)) | exact Sees.own (WRowsIn.mem (by repeat (first | exact WRowsIn.here | exact WRowsIn.last | apply WRowsIn.there | apply WRowsIn.thereS)) _ (by omega))) rfl rfl rfl) ?_
    refine VL.r (.inl rfl) rfl (by decide) (yr_func3 rfl rfl rfl rfl) ?_
    refine VL.c (.inl rfl) rfl (by decide) (yc_callf rfl known22_Src (.cons rfl (.cons rfl .nil)) (by apply Pick.e4; all_goals (repeat (first | exact Rem.here | apply Rem.there))) (c_each (X := Option Addr × Nat) (S := (fun k (p : Option Addr × Nat) => [⟨some ⟨b1, 0, none⟩, [.float .f32 f1, .float .f32 f2, .float .f32 f3, .float .f32 st, .int .i64 (W : Int), .int .i64 (H : Int), .int .i64 (D : Int), .slice a vs.length c], 8, 35⟩, ⟨some ⟨b5, 0, none⟩, [.float .f32 (srcTw st)], 1, 25⟩, ⟨some ⟨b4, 0, none⟩, [.slice p.1 (srcU vs W H D (srcTw st) (k)).length p.2], 1, 46⟩, ⟨p.1, fl (srcU vs W H D (srcTw st) (k)), p.2 * 1, 25⟩])) (x0 := (some ⟨b9, 0, none⟩, 0)) hle known35_Src (fun x y z s hx hy hz => c_srcNode hA hN hbd hle hx hy hz))) ?_
    intro p15
    refine VL.nil ?_
    refine VE.then_wp ?_
    refine V.seq ?_
    refine V.seq ?_
    refine V.region ?_
    refine VL.q (.inl rfl) rfl (by decide) (yq_load rfl fb46_Src rfl (by first | exact Sees.root (by assumption) | exact Sees.own (by repeat (first | exact List.mem_cons_self | exact List.mem_append_left _ (by assumption) | apply List.mem_cons_of_mem | apply List.mem_append_right)) | exact Sees.root (hR _ (by omega)) | exact Sees.own (RowsIn.mem (by repeat (first | exact RowsIn.here | exact RowsIn.last | apply RowsIn.there | apply RowsIn.thereS)) _ (by omega)) | exact Sees.own (WRowsIn.mem (by repeat (first | exact WRowsIn.here | exact WRowsIn.last | apply WRowsIn.there | apply WRowsIn.thereS)) _ (by omega))) rfl) ?_
    refine VL.q (.inl rfl) rfl (by decide) (yq_callf rfl known36_Src (.cons rfl .nil) (fun w hw => (c_areFinite (by first | exact Sees.root (by assumption) w hw | exact Sees.own (by repeat (first | exact List.mem_cons_self | exact List.mem_append_left _ (by assumption) | apply List.mem_cons_of_mem | apply List.mem_append_right)) w hw) (by omega)))) ?_
    refine VL.r (.inl rfl) rfl (by decide) (yr_not rfl rfl) ?_
    refine VL.nil ?_
    refine VE.then_wp ?_
    refine V.cond rfl (fun h2 => ?_) (fun h2 => ?_)
    · skip
      replace h2 := bnot_t h2
      refine V.seq ?_
      refine V.region ?_
      refine VL.r (.inl rfl) rfl (by decide) (yr_assign (u := .slice none 0 0) rfl rfl) ?_
      refine VL.r (.inl rfl) rfl (by decide) (yr_assign (u := .bool false) rfl rfl) ?_
      refine VL.nil ?_
      refine VE.then_wp ?_
      refine V.ret ?_
      refine VE.then_ret ?_
      refine ret2 rfl rfl rfl (by nofun) (by nofun) (fun w1 hw => ?_)
      first
        | (have hs : srcOk (f1, f2, f3) st (W : Int) (H : Int) (D : Int) vs = true := srcOk_yes hok (by rw [he]; assumption)
           rw [srcD_yes hs, hs, he]
           exact ⟨p15, rfl, (hw.pick (by apply Pick.one; repeat (first | exact Rem.here | apply Rem.there))).out1⟩)
        | ((have hs : srcOk (f1, f2, f3) st (W : Int) (H : Int) (D : Int) vs = false := by first | exact srcOk_no1 (by assumption) | exact srcOk_no2 (by rw [he]; assumption)); (exact ⟨(none, 0), by rw [srcD_no hs, hs]; rfl, hw.below, by rw [srcD_no hs]; simp [fl, Ent.at], List.pairwise_singleton _ _⟩))
        | ((have hs : srcOk (f1, f2, f3) st wi hi de vs = false := by first | exact srcOk_no1 (by assumption) | exact srcOk_no2 (by rw [he]; assumption)); (exact ⟨(none, 0), by rw [srcD_no hs, hs]; rfl, hw.below, by rw [srcD_no hs]; simp [fl, Ent.at], List.pairwise_singleton _ _⟩))
    · skip
      replace h2 := bnot_f h2
      refine V.skip ?_
      refine VE.then_wp ?_
      refine V.seq ?_
      refine V.region ?_
      refine VL.q (.inl rfl) rfl (by decide) (yq_load rfl fb46_Src rfl (by first | exact Sees.root (by assumption) | exact Sees.own (by repeat (first | exact List.mem_cons_self | exact List.mem_append_left _ (by assumption) | apply List.mem_cons_of_mem | apply List.mem_append_right)) | exact Sees.root (hR _ (by omega)) | exact Sees.own (RowsIn.mem (by repeat (first | exact RowsIn.here | exact RowsIn.last | apply RowsIn.there | apply RowsIn.thereS)) _ (by omega)) | exact Sees.own (WRowsIn.mem (by repeat (first | exact WRowsIn.here | exact WRowsIn.last | apply WRowsIn.there | apply WRowsIn.thereS)) _ (by omega))) rfl) ?_
      refine VL.r (.inl rfl) rfl (by decide) (yr_assign rfl rfl) ?_
      refine VL.r (.inl rfl) rfl (by decide) (yr_assign (u := .bool true) rfl rfl) ?_
      refine VL.nil ?_
      refine VE.then_wp ?_
      refine V.ret ?_
      refine ret2 rfl rfl rfl (by nofun) (by nofun) (fun w1 hw => ?_)
      first
        | (have hs : srcOk (f1, f2, f3) st (W : Int) (H : Int) (D : Int) vs = true := srcOk_yes hok (by rw [he]; assumption)
           rw [srcD_yes hs, hs, he]
           exact ⟨p15, rfl, (hw.pick (by apply Pick.one; repeat (first | exact Rem.here | apply Rem.there))).out1⟩)
        | ((have hs : srcOk (f1, f2, f3) st (W : Int) (H : Int) (D : Int) vs = false := by first | exact srcOk_no1 (by assumption) | exact srcOk_no2 (by rw [he]; assumption)); (exact ⟨(none, 0), by rw [srcD_no hs, hs]; rfl, hw.below, by rw [srcD_no hs]; simp [fl, Ent.at], List.pairwise_singleton _ _⟩))
        | ((have hs : srcOk (f1, f2, f3) st wi hi de vs = false := by first | exact srcOk_no1 (by assumption) | exact srcOk_no2 (by rw [he]; assumption)); (exact ⟨(none, 0), by rw [srcD_no hs, hs]; rfl, hw.below, by rw [srcD_no hs]; simp [fl, Ent.at], List.pairwise_singleton _ _⟩))

end Go.Proofs.Ytfeciemlhiclbaa


namespace Go.Proofs.Ytfeciemlhiclbaa
open Go.RowKit

def plc (f : V3) (st W H k : Nat) : V3 := place3 f st (FloatKind.f32.nearest ((k % W : Nat) : Int)) (FloatKind.f32.nearest ((k / W % H : Nat) : Int)) (FloatKind.f32.nearest ((k / W / H : Nat) : Int))
def fiK (ws : List Wr) (f : V3) (st W H k : Nat) : List V3 := (List.range k).map fun i => fieldI ws (plc f st W H i)
def okN (ws : List Wr) (f : V3) (st W H k : Nat) : Bool := fin3 (plc f st W H k) && fin3 (fieldI ws (plc f st W H k))
def okK (ws : List Wr) (f : V3) (st W H : Nat) : Nat → Bool
  | 0 => true
  | k + 1 => okK ws f st W H k && okN ws f st W H k
section
variable {ws : List Wr} {f : V3} {st W H D x y z k : Nat} {wi hi de : Int}
theorem plc_nd (hx : x < W) (hy : y < H) : plc f st W H (nd W H x y z) = place3 f st (FloatKind.f32.nearest (x : Int)) (FloatKind.f32.nearest (y : Int)) (FloatKind.f32.nearest (z : Int)) := by
  unfold plc; rw [nd_x hx, nd_y hx hy, nd_z hx hy]
theorem fiK_length : (fiK ws f st W H k).length = k := by simp [fiK]
theorem fiK_snoc : vl (fiK ws f st W H k) ++ [.float .f32 (fieldI ws (plc f st W H k)).1, .float .f32 (fieldI ws (plc f st W H k)).2.1, .float .f32 (fieldI ws (plc f st W H k)).2.2] = vl (fiK ws f st W H (k + 1)) := by
  rw [vl_snoc]; unfold fiK; rw [List.range_succ]; simp
theorem tmodN (a b : Nat) : ((a : Int)).tmod (b : Int) = ((a % b : Nat) : Int) := (Int.ofNat_tmod _ _).symm
end
section
variable {P : Program} {E : Env} {o : Oper}
theorem yr_remN {t ty : TypeId} {x y : Operand} {p q : Int} (a b : Nat) (ho : o.op = .binOp .rem t x y ty) (hx : E.opd x = some (.int .i64 p)) (hy : E.opd y = some (.int .i64 q)) (hp : p = (a : Int)) (hq : q = (b : Int)) (hb : 0 < b) : YR P E o (.int .i64 ((a % b : Nat) : Int)) := by
  subst hp; subst hq
  have h := yr_rem (P := P) ho hx hy (by omega)
  rwa [tmodN] at h
end
noncomputable def fiOk (ws : List Wr) (f : V3) (st : Nat) (wi hi de : Int) : Bool := wiresOk ws && fin3 f && above st && szOk wi hi de && okK ws f st wi.toNat hi.toNat (wi.toNat * hi.toNat * de.toNat)
noncomputable def fiL (ws : List Wr) (f : V3) (st : Nat) (wi hi de : Int) : List V3 := if fiOk ws f st wi hi de then fiK ws f st wi.toNat hi.toNat (wi.toNat * hi.toNat * de.toNat) else []
noncomputable def fiF (ws : List Wr) (f : V3) (st : Nat) (wi hi de : Int) : V3 := if fiOk ws f st wi hi de then f else z3
noncomputable def fiS (ws : List Wr) (f : V3) (st : Nat) (wi hi de : Int) : Nat := if fiOk ws f st wi hi de then st else 0
noncomputable def fiI (ws : List Wr) (f : V3) (st : Nat) (wi hi de n : Int) : Int := if fiOk ws f st wi hi de then n else 0
section
variable {ws : List Wr} {f : V3} {st W H D : Nat} {wi hi de n : Int}
theorem fiOk_yes (h1 : wiresOk ws = true) (h2 : fin3 f = true) (h3 : above st = true) (h4 : szOk wi hi de = true) (h5 : okK ws f st wi.toNat hi.toNat (wi.toNat * hi.toNat * de.toNat) = true) : fiOk ws f st wi hi de = true := by unfold fiOk; rw [h1, h2, h3, h4, h5]; rfl
theorem fiOk_no1 (h : wiresOk ws = false) : fiOk ws f st wi hi de = false := by unfold fiOk; rw [h]; rfl
theorem fiOk_no2 (h : fin3 f = false) : fiOk ws f st wi hi de = false := by unfold fiOk; rw [h, Bool.and_false]; rfl
theorem fiOk_no3 (h : above st = false) : fiOk ws f st wi hi de = false := by unfold fiOk; rw [h, Bool.and_false]; rfl
theorem fiOk_no4 (h : szOk wi hi de = false) : fiOk ws f st wi hi de = false := by unfold fiOk; rw [h, Bool.and_false]; rfl
theorem fiOk_no5 (h : okK ws f st wi.toNat hi.toNat (wi.toNat * hi.toNat * de.toNat) = false) : fiOk ws f st wi hi de = false := by unfold fiOk; rw [h, Bool.and_false]
theorem fiL_yes (h : fiOk ws f st wi hi de = true) : fiL ws f st wi hi de = fiK ws f st wi.toNat hi.toNat (wi.toNat * hi.toNat * de.toNat) := by unfold fiL; rw [h]; rfl
theorem fiF_yes (h : fiOk ws f st wi hi de = true) : fiF ws f st wi hi de = f := by unfold fiF; rw [h]; rfl
theorem fiS_yes (h : fiOk ws f st wi hi de = true) : fiS ws f st wi hi de = st := by unfold fiS; rw [h]; rfl
theorem fiI_yes (h : fiOk ws f st wi hi de = true) : fiI ws f st wi hi de n = n := by unfold fiI; rw [h]; rfl
theorem fiL_no (h : fiOk ws f st wi hi de = false) : fiL ws f st wi hi de = [] := by unfold fiL; rw [h]; rfl
theorem fiF_no (h : fiOk ws f st wi hi de = false) : fiF ws f st wi hi de = z3 := by unfold fiF; rw [h]; rfl
theorem fiS_no (h : fiOk ws f st wi hi de = false) : fiS ws f st wi hi de = 0 := by unfold fiS; rw [h]; rfl
theorem fiI_no (h : fiOk ws f st wi hi de = false) : fiI ws f st wi hi de n = 0 := by unfold fiI; rw [h]; rfl
end
end Go.Proofs.Ytfeciemlhiclbaa


namespace Go.Proofs.Ytfeciemlhiclbaa
end Go.Proofs.Ytfeciemlhiclbaa


namespace Go.Proofs.Ytfeciemlhiclbaa
end Go.Proofs.Ytfeciemlhiclbaa


namespace Go.Proofs.Ytfeciemlhiclbaa
open Go.RowKit

end Go.Proofs.Ytfeciemlhiclbaa


namespace Go.Proofs.Ytfeciemlhiclbaa
open Go.RowKit

theorem Hp.nil {w0 w : World} {O : List Ent} (h : Hp w0 O w) (t : TypeId) : Hp w0 (⟨none, [], 0, t⟩ :: O) w :=
  h.new (Below.refl _ _) (.inl ⟨rfl, rfl⟩)

/-! ### limits -/
section
variable {xss : List (List Nat)} {ws gs x : List Nat} {most unit : Nat} {rn : Int}
end
/-! ### steps that improve -/
section
variable {xss : List (List Nat)} {ws gs x : List Nat} {most unit : Nat} {rn : Int}
end
end Go.Proofs.Ytfeciemlhiclbaa


namespace Go.Proofs.Ytfeciemlhiclbaa
open Go.RowKit
set_option linter.unusedVariables false
set_option linter.unusedSimpArgs false
set_option maxRecDepth 20000

theorem mixed_Fill : Try.prog.follows .mixedOrders = true := by kernel_rfl
theorem fb30_Fill : flatB Try.prog 30 = true := by kernel_rfl
theorem sz35_Fill : (Try.prog.info? 35).map (·.size) = some 8 := by kernel_rfl
theorem known25_Fill : Known Try.prog 25 := Known.mk' Try.func25 (by kernel_rfl)
theorem known24_Fill : Known Try.prog 24 := Known.mk' Try.func24 (by kernel_rfl)
theorem zero32_Fill : (Try.prog.info? 32).bind (·.zero) = some (Value.agg #[Value.float .f32 0, Value.float .f32 0, Value.float .f32 0]) := by kernel_rfl
theorem sz32_Fill : (Try.prog.info? 32).map (·.size) = some 3 := by kernel_rfl
theorem fb4_Fill : flatB Try.prog 4 = true := by kernel_rfl
theorem sz4_Fill : (Try.prog.info? 4).map (·.size) = some 1 := by kernel_rfl
theorem sz24_Fill : (Try.prog.info? 24).map (·.size) = some 1 := by kernel_rfl
theorem fb24_Fill : flatB Try.prog 24 = true := by kernel_rfl
theorem elt32_Fill : Elt Try.prog 32 [Value.float .f32 0, Value.float .f32 0, Value.float .f32 0] 12 := Elt.mk' (by kernel_rfl) (by decide)
theorem zero35_Fill : (Try.prog.info? 35).bind (·.zero) = some (Value.agg #[Value.float .f32 0, Value.float .f32 0, Value.float .f32 0, Value.float .f32 0, Value.int .i64 0, Value.int .i64 0, Value.int .i64 0, Value.slice none 0 0]) := by kernel_rfl
theorem lay35_Fill : Lay Try.prog 35 [Value.float .f32 0, Value.float .f32 0, Value.float .f32 0, Value.float .f32 0, Value.int .i64 0, Value.int .i64 0, Value.int .i64 0, Value.slice none 0 0] [(0, 3), (3, 1), (4, 1), (5, 1), (6, 1), (7, 1)] := Lay.mk' (by kernel_rfl) (by kernel_rfl)
theorem known20_Fill : Known Try.prog 20 := Known.mk' Try.func20 (by kernel_rfl)
theorem known21_Fill : Known Try.prog 21 := Known.mk' Try.func21 (by kernel_rfl)
theorem zero4_Fill : (Try.prog.info? 4).bind (·.zero) = some (Value.bool false) := by kernel_rfl
theorem known23_Fill : Known Try.prog 23 := Known.mk' Try.func23 (by kernel_rfl)
theorem known22_Fill : Known Try.prog 22 := Known.mk' Try.func22 (by kernel_rfl)
theorem known26_Fill : Known Try.prog 26 := Known.mk' Try.func26 (by kernel_rfl)
attribute [local irreducible] fop fcmp fconv sqrt32 fneg segF fieldS fieldI List.getD

theorem c_fillNode {w0 : World} {a : Option Addr} {c : Nat} {f : Nat → Option Addr × Nat} {ws : List Wr} {f1 f2 f3 st W H D : Nat} {x y z b6 b14 b15 : Nat} {ar : Option Addr} {cr : Nat} (hA : Cl w0 a (whd f ws)) (hR : WRws w0 f ws) (hn : wbulk ws ≤ 1050000) (hv : wiresOk ws = true) (hbd : W * H * D ≤ 216) (hx : x < W) (hy : y < H) (hz : z < D) : Mut Try.prog 23 [.int .i64 (x : Int), .int .i64 (y : Int), .int .i64 (z : Int), .pointer (some (adr (some ⟨b6, 0, none⟩) 0)), .pointer (some (adr (some ⟨b14, 0, none⟩) 0)), .pointer (some (adr (some ⟨b15, 0, none⟩) 0))] w0 [⟨some ⟨b6, 0, none⟩, [.slice a ws.length c], 1, 30⟩, ⟨some ⟨b14, 0, none⟩, [.float .f32 f1, .float .f32 f2, .float .f32 f3, .float .f32 st, .int .i64 (W : Int), .int .i64 (H : Int), .int .i64 (D : Int), .slice ar (nd W H x y z) cr], 8, 35⟩, ⟨some ⟨b15, 0, none⟩, [.bool (okK ws (f1, f2, f3) st W H (nd W H x y z))], 1, 4⟩, ⟨ar, vl (fiK ws (f1, f2, f3) st W H (nd W H x y z)), cr * 3, 32⟩] (fun _ : Option Addr × Nat => .tuple #[]) (fun p => [⟨some ⟨b6, 0, none⟩, [.slice a ws.length c], 1, 30⟩, ⟨some ⟨b14, 0, none⟩, [.float .f32 f1, .float .f32 f2, .float .f32 f3, .float .f32 st, .int .i64 (W : Int), .int .i64 (H : Int), .int .i64 (D : Int), .slice p.1 (nd W H x y z + 1) p.2], 8, 35⟩, ⟨some ⟨b15, 0, none⟩, [.bool (okK ws (f1, f2, f3) st W H (nd W H x y z + 1))], 1, 4⟩, ⟨p.1, vl (fiK ws (f1, f2, f3) st W H (nd W H x y z + 1)), p.2 * 3, 32⟩]) := by
  refine Mut.enter Try.func23 rfl Try.ntmps23 (Nat.le_of_ble_eq_true rfl) ?_
  intro F
  have hnd := nd_facts (x := x) hx hy hz hbd
  have hpl := plc_nd (f := (f1, f2, f3)) (st := st) (z := z) hx hy
  refine V.seq ?_
  refine Dr.V.drawR [(0, 5), (1, 5), (2, 5), (3, 5), (4, 5), (5, 5), (6, 5), (7, 5), (8, 5), (9, 5), (10, 5), (11, 5), (12, 5), (13, 2), (14, 3), (15, 5)] [(13, ((fun b => .pointer (some (adr (some ⟨b, 0, none⟩) 0))), (fun b => ⟨some ⟨b, 0, none⟩, [Value.float .f32 0, Value.float .f32 0, Value.float .f32 0], 3, 32⟩)))] [] _ mixed_Fill (by kernel_rfl) (fun w hw => hw) ?_
  refine Dr.SW.p rfl (.inl rfl) rfl (by decide) (yq_load rfl fb30_Fill rfl (by first | exact Sees.root (by assumption) | exact Sees.own (by (try simp only [List.append_assoc, List.cons_append, List.nil_append]); repeat (first | exact List.mem_cons_self | exact List.mem_append_left _ (by assumption) | apply List.mem_cons_of_mem | apply List.mem_append_right)) | exact Sees.root (hR _ (by omega)) | exact Sees.own (RowsIn.mem (by (try simp only [List.append_assoc, List.cons_append, List.nil_append]); repeat (first | exact RowsIn.here | exact RowsIn.last | apply RowsIn.there | apply RowsIn.thereS)) _ (by omega)) | exact Sees.own (WRowsIn.mem (by (try simp only [List.append_assoc, List.cons_append, List.nil_append]); repeat (first | exact WRowsIn.here | exact WRowsIn.last | apply WRowsIn.there | apply WRowsIn.thereS)) _ (by omega))) rfl) ?_
  refine Dr.SW.p rfl (.inl rfl) rfl (by decide) (yq_loadS rfl Try.underlying35 sz35_Fill rfl (by first | exact Sees.root (by assumption) | exact Sees.own (by (try simp only [List.append_assoc, List.cons_append, List.nil_append]); repeat (first | exact List.mem_cons_self | exact List.mem_append_left _ (by assumption) | apply List.mem_cons_of_mem | apply List.mem_append_right)) | exact Sees.root (hR _ (by omega)) | exact Sees.own (RowsIn.mem (by (try simp only [List.append_assoc, List.cons_append, List.nil_append]); repeat (first | exact RowsIn.here | exact RowsIn.last | apply RowsIn.there | apply RowsIn.thereS)) _ (by omega)) | exact Sees.own (WRowsIn.mem (by (try simp only [List.append_assoc, List.cons_append, List.nil_append]); repeat (first | exact WRowsIn.here | exact WRowsIn.last | apply WRowsIn.there | apply WRowsIn.thereS)) _ (by omega))) rfl rfl rfl) ?_
  refine Dr.SW.r rfl (.inl rfl) rfl (by decide) (yr_move rfl rfl) ?_
  refine Dr.SW.r rfl (.inl rfl) rfl (by decide) (yr_ofInt rfl Try.underlying2 Try.underlying25 rfl) ?_
  refine Dr.SW.r rfl (.inl rfl) rfl (by decide) (yr_move rfl rfl) ?_
  refine Dr.SW.r rfl (.inl rfl) rfl (by decide) (yr_ofInt rfl Try.underlying2 Try.underlying25 rfl) ?_
  refine Dr.SW.r rfl (.inl rfl) rfl (by decide) (yr_move rfl rfl) ?_
  refine Dr.SW.r rfl (.inl rfl) rfl (by decide) (yr_ofInt rfl Try.underlying2 Try.underlying25 rfl) ?_
  refine Dr.SW.p rfl (.inl rfl) rfl (by decide) (yq_callf rfl known25_Fill (.cons rfl (.cons rfl (.cons rfl (.cons rfl .nil)))) (fun w hw => c_place)) ?_
  refine Dr.SW.p rfl (.inl rfl) rfl (by decide) (yq_callf rfl known24_Fill (.cons rfl (.cons rfl .nil)) (fun w hw => (by rw [← hpl]; exact c_fieldAll (p1 := (plc (f1, f2, f3) st W H (nd W H x y z)).1) (p2 := (plc (f1, f2, f3) st W H (nd W H x y z)).2.1) (p3 := (plc (f1, f2, f3) st W H (nd W H x y z)).2.2) (by first | exact Sees.root (by assumption) w hw | exact Sees.own (by (try simp only [List.append_assoc, List.cons_append, List.nil_append]); repeat (first | exact List.mem_cons_self | exact List.mem_append_left _ (by assumption) | apply List.mem_cons_of_mem | apply List.mem_append_right)) w hw) (by first | exact WRws.root (by assumption) hw | exact WRws.own (by (try simp only [List.append_assoc, List.cons_append, List.nil_append]); repeat (first | exact WRowsIn.here | exact WRowsIn.last | apply WRowsIn.there | apply WRowsIn.thereS)) hw) (by omega) (by assumption)))) ?_
  refine Dr.SW.r rfl (.inl rfl) rfl (by decide) (yr_move rfl rfl) ?_
  refine Dr.SW.r rfl (.inl rfl) rfl (by decide) (yr_extract rfl rfl rfl (by nofun)) ?_
  refine Dr.SW.r rfl (.inl rfl) rfl (by decide) (yr_extract rfl rfl rfl (by nofun)) ?_
  refine Dr.SW.a rfl rfl rfl (by decide) rfl (fun w0 => (yn_alloc rfl zero32_Fill rfl)) ?_
  intro b9
  refine Dr.SW.s rfl (.inl rfl) rfl (yc_store rfl sz32_Fill rfl rfl (Dr.UpdF.app (by repeat (first | exact UpdF.here | apply UpdF.there | apply UpdF.thereS))) (.inr ⟨rfl, rfl⟩) rfl (by first | exact Nat.le_of_ble_eq_true rfl | simp) (by decide) rfl) ?_
  rintro ⟨⟩
  refine Dr.SW.r rfl (.inl rfl) rfl (by decide) (yr_assign rfl rfl) ?_
  refine Dr.SW.done ?_
  refine Dr.eqO (by simp only [List.append_nil, List.append_assoc, List.cons_append, List.nil_append] <;> rfl) ?_
  refine VE.then_wp ?_
  refine V.seq ?_
  refine V.region ?_
  refine VL.q (.inl rfl) rfl (by decide) (yq_load rfl fb4_Fill rfl (by first | exact Sees.root (by assumption) | exact Sees.own (by repeat (first | exact List.mem_cons_self | exact List.mem_append_left _ (by assumption) | apply List.mem_cons_of_mem | apply List.mem_append_right)) | exact Sees.root (hR _ (by omega)) | exact Sees.own (RowsIn.mem (by repeat (first | exact RowsIn.here | exact RowsIn.last | apply RowsIn.there | apply RowsIn.thereS)) _ (by omega)) | exact Sees.own (WRowsIn.mem (by repeat (first | exact WRowsIn.here | exact WRowsIn.last | apply WRowsIn.there | apply WRowsIn.thereS)) _ (by omega))) rfl) ?_
  refine VL.r (.inl rfl) rfl (by decide) (yr_move rfl rfl) ?_
  refine VX.split 25 _ rfl (fun h1 => ?_) (fun h1 => ?_)
  · skip
    refine VL.r (.inr ⟨_, _, _, rfl, rfl, rfl⟩) rfl (by decide) (yr_move rfl rfl) ?_
    refine VL.r (.inl rfl) rfl (by decide) (yr_pick_t rfl rfl rfl) ?_
    refine VL.s (.inl rfl) rfl (yc_store rfl sz4_Fill rfl rfl (by repeat (first | exact UpdF.here | apply UpdF.there | apply UpdF.thereS)) (.inl ⟨rfl, rfl⟩) rfl (by first | exact Nat.le_of_ble_eq_true rfl | simp) (by decide) rfl) ?_
    rintro ⟨⟩
    refine VL.nil ?_
    refine VE.then_wp ?_
    refine V.region ?_
    refine VL.r (.inl rfl) rfl (by decide) (yr_fieldAddr rfl Try.underlying35 rfl rfl sz24_Fill (by decide) rfl) ?_
    refine VL.q (.inl rfl) rfl (by decide) (yq_load rfl fb24_Fill rfl (by first | exact Sees.root (by assumption) | exact Sees.own (by repeat (first | exact List.mem_cons_self | exact List.mem_append_left _ (by assumption) | apply List.mem_cons_of_mem | apply List.mem_append_right)) | exact Sees.root (hR _ (by omega)) | exact Sees.own (RowsIn.mem (by repeat (first | exact RowsIn.here | exact RowsIn.last | apply RowsIn.there | apply RowsIn.thereS)) _ (by omega)) | exact Sees.own (WRowsIn.mem (by repeat (first | exact WRowsIn.here | exact WRowsIn.last | apply WRowsIn.there | apply WRowsIn.thereS)) _ (by omega))) rfl) ?_
    refine VL.q (.inl rfl) rfl (by decide) (yq_loadS rfl Try.underlying32 sz32_Fill rfl (by first | exact Sees.root (by assumption) | exact Sees.own (by repeat (first | exact List.mem_cons_self | exact List.mem_append_left _ (by assumption) | apply List.mem_cons_of_mem | apply List.mem_append_right)) | exact Sees.root (hR _ (by omega)) | exact Sees.own (RowsIn.mem (by repeat (first | exact RowsIn.here | exact RowsIn.last | apply RowsIn.there | apply RowsIn.thereS)) _ (by omega)) | exact Sees.own (WRowsIn.mem (by repeat (first | exact WRowsIn.here | exact WRowsIn.last | apply WRowsIn.there | apply WRowsIn.thereS)) _ (by omega))) rfl rfl rfl) ?_
    refine VL.new1 (.inl rfl) rfl (by decide) (yn_buildSlice rfl Try.underlying24 elt32_Fill rfl (by decide) (.cons rfl .nil) (by first | (simp; done) | (simp [vv]; done)) rfl rfl) ?_
    intro b31
    refine VL.c (.inl rfl) rfl (by decide) (yc_appendz 3 rfl rfl Try.underlying24 elt32_Fill rfl rfl (by repeat (first | exact UpdF.here | apply UpdF.there | apply UpdF.thereS)) (by first | exact Sees.root (by assumption) | exact Sees.own (by repeat (first | exact List.mem_cons_self | exact List.mem_append_left _ (by assumption) | apply List.mem_cons_of_mem | apply List.mem_append_right)) | exact Sees.root (hR _ (by omega)) | exact Sees.own (RowsIn.mem (by repeat (first | exact RowsIn.here | exact RowsIn.last | apply RowsIn.there | apply RowsIn.thereS)) _ (by omega)) | exact Sees.own (WRowsIn.mem (by repeat (first | exact WRowsIn.here | exact WRowsIn.last | apply WRowsIn.there | apply WRowsIn.thereS)) _ (by omega))) rfl (by rw [vl_length, fiK_length]) rfl (vl_scal _) rfl (by omega) (by omega)) ?_
    rintro ⟨a32, c32⟩
    refine VL.r (.inl rfl) rfl (by decide) (yr_fieldAddr rfl Try.underlying35 rfl rfl sz24_Fill (by decide) rfl) ?_
    refine VL.s (.inl rfl) rfl (yc_store rfl sz24_Fill rfl rfl (by repeat (first | exact UpdF.here | apply UpdF.there | apply UpdF.thereS)) (.inl ⟨rfl, rfl⟩) rfl (by first | exact Nat.le_of_ble_eq_true rfl | simp) (by decide) rfl) ?_
    rintro ⟨⟩
    refine VL.nil ?_
    refine VE.fall ?_
    refine ret0 rfl (fun w1 hw => ?_)
    have h8 := hw.sub ((List.sublist_cons_self _ _).trans (List.sublist_cons_self _ _))
    refine ⟨(a32, c32), rfl, ?_⟩
    rw [← fiK_snoc]
    first
      | (have h7 : okK ws (f1, f2, f3) st W H (nd W H x y z + 1) = okN ws (f1, f2, f3) st W H (nd W H x y z) := by rw [okK, show okK ws (f1, f2, f3) st W H (nd W H x y z) = true by assumption, Bool.true_and]
         rw [h7]; exact h8)
      | (have h7 : okK ws (f1, f2, f3) st W H (nd W H x y z + 1) = false := by rw [okK, show okK ws (f1, f2, f3) st W H (nd W H x y z) = false by assumption, Bool.false_and]
         rw [h7]; exact h8)
  · skip
    refine VL.no rfl rfl rfl rfl rfl (by decide) ?_
    refine VL.r (.inl rfl) rfl (by decide) (yr_pick_f (u := .bool false) rfl rfl rfl) ?_
    refine VL.s (.inl rfl) rfl (yc_store rfl sz4_Fill rfl rfl (by repeat (first | exact UpdF.here | apply UpdF.there | apply UpdF.thereS)) (.inl ⟨rfl, rfl⟩) rfl (by first | exact Nat.le_of_ble_eq_true rfl | simp) (by decide) rfl) ?_
    rintro ⟨⟩
    refine VL.nil ?_
    refine VE.then_wp ?_
    refine V.region ?_
    refine VL.r (.inl rfl) rfl (by decide) (yr_fieldAddr rfl Try.underlying35 rfl rfl sz24_Fill (by decide) rfl) ?_
    refine VL.q (.inl rfl) rfl (by decide) (yq_load rfl fb24_Fill rfl (by first | exact Sees.root (by assumption) | exact Sees.own (by repeat (first | exact List.mem_cons_self | exact List.mem_append_left _ (by assumption) | apply List.mem_cons_of_mem | apply List.mem_append_right)) | exact Sees.root (hR _ (by omega)) | exact Sees.own (RowsIn.mem (by repeat (first | exact RowsIn.here | exact RowsIn.last | apply RowsIn.there | apply RowsIn.thereS)) _ (by omega)) | exact Sees.own (WRowsIn.mem (by repeat (first | exact WRowsIn.here | exact WRowsIn.last | apply WRowsIn.there | apply WRowsIn.thereS)) _ (by omega))) rfl) ?_
    refine VL.q (.inl rfl) rfl (by decide) (yq_loadS rfl Try.underlying32 sz32_Fill rfl (by first | exact Sees.root (by assumption) | exact Sees.own (by repeat (first | exact List.mem_cons_self | exact List.mem_append_left _ (by assumption) | apply List.mem_cons_of_mem | apply List.mem_append_right)) | exact Sees.root (hR _ (by omega)) | exact Sees.own (RowsIn.mem (by repeat (first | exact RowsIn.here | exact RowsIn.last | apply RowsIn.there | apply RowsIn.thereS)) _ (by omega)) | exact Sees.own (WRowsIn.mem (by repeat (first | exact WRowsIn.here | exact WRowsIn.last | apply WRowsIn.there | apply WRowsIn.thereS)) _ (by omega))) rfl rfl rfl) ?_
    refine VL.new1 (.inl rfl) rfl (by decide) (yn_buildSlice rfl Try.underlying24 elt32_Fill rfl (by decide) (.cons rfl .nil) (by first | (simp; done) | (simp [vv]; done)) rfl rfl) ?_
    intro b31
    refine VL.c (.inl rfl) rfl (by decide) (yc_appendz 3 rfl rfl Try.underlying24 elt32_Fill rfl rfl (by repeat (first | exact UpdF.here | apply UpdF.there | apply UpdF.thereS)) (by first | exact Sees.root (by assumption) | exact Sees.own (by repeat (first | exact List.mem_cons_self | exact List.mem_append_left _ (by assumption) | apply List.mem_cons_of_mem | apply List.mem_append_right)) | exact Sees.root (hR _ (by omega)) | exact Sees.own (RowsIn.mem (by repeat (first | exact RowsIn.here | exact RowsIn.last | apply RowsIn.there | apply RowsIn.thereS)) _ (by omega)) | exact Sees.own (WRowsIn.mem (by repeat (first | exact WRowsIn.here | exact WRowsIn.last | apply WRowsIn.there | apply WRowsIn.thereS)) _ (by omega))) rfl (by rw [vl_length, fiK_length]) rfl (vl_scal _) rfl (by omega) (by omega)) ?_
    rintro ⟨a32, c32⟩
    refine VL.r (.inl rfl) rfl (by decide) (yr_fieldAddr rfl Try.underlying35 rfl rfl sz24_Fill (by decide) rfl) ?_
    refine VL.s (.inl rfl) rfl (yc_store rfl sz24_Fill rfl rfl (by repeat (first | exact UpdF.here | apply UpdF.there | apply UpdF.thereS)) (.inl ⟨rfl, rfl⟩) rfl (by first | exact Nat.le_of_ble_eq_true rfl | simp) (by decide) rfl) ?_
    rintro ⟨⟩
    refine VL.nil ?_
    refine VE.fall ?_
    refine ret0 rfl (fun w1 hw => ?_)
    have h8 := hw.sub ((List.sublist_cons_self _ _).trans (List.sublist_cons_self _ _))
    refine ⟨(a32, c32), rfl, ?_⟩
    rw [← fiK_snoc]
    first
      | (have h7 : okK ws (f1, f2, f3) st W H (nd W H x y z + 1) = okN ws (f1, f2, f3) st W H (nd W H x y z) := by rw [okK, show okK ws (f1, f2, f3) st W H (nd W H x y z) = true by assumption, Bool.true_and]
         rw [h7]; exact h8)
      | (have h7 : okK ws (f1, f2, f3) st W H (nd W H x y z + 1) = false := by rw [okK, show okK ws (f1, f2, f3) st W H (nd W H x y z) = false by assumption, Bool.false_and]
         rw [h7]; exact h8)

theorem c_implFill {w : World} {a : Option Addr} {c : Nat} {f : Nat → Option Addr × Nat} {ws : List Wr} {f1 f2 f3 st : Nat} {wi hi de : Int} (hA : Cl w a (whd f ws)) (hR : WRws w f ws) (hn : wbulk ws ≤ 1050000) : New Try.prog 7 [.slice a ws.length c, vv (f1, f2, f3), .float .f32 st, .int .i64 wi, .int .i64 hi, .int .i64 de] w (fun p : Option Addr × Nat => .tuple #[.agg #[.float .f32 (fiF ws (f1, f2, f3) st wi hi de).1, .float .f32 (fiF ws (f1, f2, f3) st wi hi de).2.1, .float .f32 (fiF ws (f1, f2, f3) st wi hi de).2.2, .float .f32 (fiS ws (f1, f2, f3) st wi hi de), .int .i64 (fiI ws (f1, f2, f3) st wi hi de wi), .int .i64 (fiI ws (f1, f2, f3) st wi hi de hi), .int .i64 (fiI ws (f1, f2, f3) st wi hi de de), .slice p.1 (fiL ws (f1, f2, f3) st wi hi de).length p.2], .bool (fiOk ws (f1, f2, f3) st wi hi de)]) (fun p => [⟨p.1, vl (fiL ws (f1, f2, f3) st wi hi de), p.2 * 3, 32⟩]) := by
  refine New.enter Try.func7 rfl Try.ntmps7 (Nat.le_of_ble_eq_true rfl) ?_
  have hwl : ws.length ≤ wbulk ws := by unfold wbulk; omega
  have hrw : ∀ k, k < ws.length → (ws.getD k zw).1.length ≤ 1050000 := fun k hk => by have := wbulk_row hk; omega
  refine V.seq ?_
  refine V.region ?_
  refine VL.new1 (.inl rfl) rfl (by decide) (yn_box rfl rfl (.inl ⟨rfl, rfl⟩)) ?_
  intro b6
  refine VL.new1 (.inl rfl) rfl (by decide) (yn_box rfl rfl (.inr ⟨rfl, rfl⟩)) ?_
  intro b7
  refine VL.new1 (.inl rfl) rfl (by decide) (yn_alloc rfl zero35_Fill rfl) ?_
  intro b12
  refine VL.r (.inl rfl) rfl (by decide) (yr_assign (u := .bool false) rfl rfl) ?_
  refine VL.nil ?_
  refine VE.then_wp ?_
  refine V.seq ?_
  refine V.region ?_
  refine VL.q (.inl rfl) rfl (by decide) (yq_loadS rfl Try.underlying32 sz32_Fill rfl (by first | exact Sees.root (by assumption) | exact Sees.own (by repeat (first | exact List.mem_cons_self | exact List.mem_append_left _ (by assumption) | apply List.mem_cons_of_mem | apply List.mem_append_right)) | exact Sees.root (hR _ (by omega)) | exact Sees.own (RowsIn.mem (by repeat (first | exact RowsIn.here | exact RowsIn.last | apply RowsIn.there | apply RowsIn.thereS)) _ (by omega)) | exact Sees.own (WRowsIn.mem (by repeat (first | exact WRowsIn.here | exact WRowsIn.last | apply WRowsIn.there | apply WRowsIn.thereS)) _ (by omega))) rfl rfl rfl) ?_
  refine VL.r (.inl rfl) rfl (by decide) (yr_move rfl rfl) ?_
  refine VL.r (.inl rfl) rfl (by decide) (yr_move rfl rfl) ?_
  refine VL.r (.inl rfl) rfl (by decide) (yr_move rfl rfl) ?_
  refine VL.r (.inl rfl) rfl (by decide) (yr_move rfl rfl) ?_
  refine VL.r (.inl rfl) rfl (by decide) (yr_build rfl lay35_Fill rfl (.cons rfl (.cons rfl (.cons rfl (.cons rfl (.cons rfl .nil))))) (by first | (simp; done) | (simp [vv]; done) | (simp [cn, cn1, cn0]; done)) rfl) ?_
  refine VL.new1 (.inl rfl) rfl (by decide) (yn_alloc rfl zero35_Fill rfl) ?_
  intro b14
  refine VL.s (.inl rfl) rfl (yc_store rfl sz35_Fill rfl rfl (by repeat (first | exact UpdF.here | apply UpdF.there | apply UpdF.thereS)) (.inr ⟨rfl, rfl⟩) rfl (by first | exact Nat.le_of_ble_eq_true rfl | simp) (by decide) rfl) ?_
  rintro ⟨⟩
  refine VL.nil ?_
  refine VE.then_wp ?_
  refine V.seq ?_
  refine V.seq ?_
  refine V.region ?_
  refine VL.q (.inl rfl) rfl (by decide) (yq_load rfl fb30_Fill rfl (by first | exact Sees.root (by assumption) | exact Sees.own (by repeat (first | exact List.mem_cons_self | exact List.mem_append_left _ (by assumption) | apply List.mem_cons_of_mem | apply List.mem_append_right)) | exact Sees.root (hR _ (by omega)) | exact Sees.own (RowsIn.mem (by repeat (first | exact RowsIn.here | exact RowsIn.last | apply RowsIn.there | apply RowsIn.thereS)) _ (by omega)) | exact Sees.own (WRowsIn.mem (by repeat (first | exact WRowsIn.here | exact WRowsIn.last | apply WRowsIn.there | apply WRowsIn.thereS)) _ (by omega))) rfl) ?_
  refine VL.q (.inl rfl) rfl (by decide) (yq_callf rfl known20_Fill (.cons rfl .nil) (fun w hw => (c_implAre (by first | exact Sees.root (by assumption) w hw | exact Sees.own (by repeat (first | exact List.mem_cons_self | exact List.mem_append_left _ (by assumption) | apply List.mem_cons_of_mem | apply List.mem_append_right)) w hw) (by first | exact WRws.root (by assumption) hw | exact WRws.own (by repeat (first | exact WRowsIn.here | exact WRowsIn.last | apply WRowsIn.there | apply WRowsIn.thereS)) hw) (by omega)))) ?_
  refine VL.r (.inl rfl) rfl (by decide) (yr_not rfl rfl) ?_
  refine VL.r (.inl rfl) rfl (by decide) (yr_move rfl rfl) ?_
  refine VX.split 25 _ rfl (fun h1 => ?_) (fun h1 => ?_)
  · skip
    replace h1 := bnot_t h1
    refine VL.no rfl rfl rfl rfl rfl (by decide) ?_
    refine VL.no rfl rfl rfl rfl rfl (by decide) ?_
    refine VL.no rfl rfl rfl rfl rfl (by decide) ?_
    refine VL.r (.inl rfl) rfl (by decide) (yr_pick_t (u := .bool true) rfl rfl rfl) ?_
    refine VL.r (.inl rfl) rfl (by decide) (yr_move rfl rfl) ?_
    refine VL.no rfl rfl rfl rfl rfl (by decide) ?_
    refine VL.no rfl rfl rfl rfl rfl (by decide) ?_
    refine VL.no rfl rfl rfl rfl rfl (by decide) ?_
    refine VL.r (.inl rfl) rfl (by decide) (yr_pick_t (u := .bool true) rfl rfl rfl) ?_
    refine VL.r (.inl rfl) rfl (by decide) (yr_move rfl rfl) ?_
    refine VL.no rfl rfl rfl rfl rfl (by decide) ?_
    refine VL.no rfl rfl rfl rfl rfl (by decide) ?_
    refine VL.no rfl rfl rfl rfl rfl (by decide) ?_
    refine VL.r (.inl rfl) rfl (by decide) (yr_pick_t (u := .bool true) rfl rfl rfl) ?_
    refine VL.r (.inl rfl) rfl (by decide) (yr_move rfl rfl) ?_
    refine VL.no rfl rfl rfl rfl rfl (by decide) ?_
    refine VL.no rfl rfl rfl rfl rfl (by decide) ?_
    refine VL.no rfl rfl rfl rfl rfl (by decide) ?_
    refine VL.no rfl rfl rfl rfl rfl (by decide) ?_
    refine VL.no rfl rfl rfl rfl rfl (by decide) ?_
    refine VL.no rfl rfl rfl rfl rfl (by decide) ?_
    refine VL.r (.inl rfl) rfl (by decide) (yr_pick_t (u := .bool true) rfl rfl rfl) ?_
    refine VL.nil ?_
    refine VE.then_wp ?_
    refine V.condT rfl ?_
    refine V.seq ?_
    refine V.region ?_
    refine VL.r (.inl rfl) rfl (by decide) (yr_build rfl lay35_Fill rfl .nil (by first | (simp; done) | (simp [vv]; done) | (simp [cn, cn1, cn0]; done)) rfl) ?_
    refine VL.s (.inl rfl) rfl (yc_store rfl sz35_Fill rfl rfl (by repeat (first | exact UpdF.here | apply UpdF.there | apply UpdF.thereS)) (.inr ⟨rfl, rfl⟩) rfl (by first | exact Nat.le_of_ble_eq_true rfl | simp) (by decide) rfl) ?_
    rintro ⟨⟩
    refine VL.r (.inl rfl) rfl (by decide) (yr_assign (u := .bool false) rfl rfl) ?_
    refine VL.nil ?_
    refine VE.then_wp ?_
    refine V.ret ?_
    refine VE.then_ret ?_
    refine retN rfl (.cons (rv_cellS rfl Try.underlying35 sz35_Fill (by first | exact Sees.root (by assumption) | exact Sees.own (by repeat (first | exact List.mem_cons_self | exact List.mem_append_left _ (by assumption) | apply List.mem_cons_of_mem | apply List.mem_append_right)) | exact Sees.root (hR _ (by omega)) | exact Sees.own (RowsIn.mem (by repeat (first | exact RowsIn.here | exact RowsIn.last | apply RowsIn.there | apply RowsIn.thereS)) _ (by omega)) | exact Sees.own (WRowsIn.mem (by repeat (first | exact WRowsIn.here | exact WRowsIn.last | apply WRowsIn.there | apply WRowsIn.thereS)) _ (by omega))) rfl rfl rfl) (.cons (rv_tmp rfl (by nofun)) .nil)) (by nofun) (fun w1 hw => ?_)
    first
      | (obtain ⟨m1, m2, _, _⟩ := meshOk_is hm
         have hk9 : okK ws (f1, f2, f3) st (W : Int).toNat (H : Int).toNat ((W : Int).toNat * (H : Int).toNat * (D : Int).toNat) = true := by assumption
         ((have hs : fiOk ws (f1, f2, f3) st (W : Int) (H : Int) (D : Int) = true := fiOk_yes (by assumption) m1 m2 (by assumption) (by assumption)); exact ⟨(p51.1, p51.2), by simp only [fiF_yes hs, fiS_yes hs, fiI_yes hs, fiL_yes hs, hs, fiK_length]; rfl, by rw [fiL_yes hs]; exact (hw.pick (by apply Pick.one; repeat (first | exact Rem.here | apply Rem.there))).out1⟩))
      | ((have hs : fiOk ws (f1, f2, f3) st (W : Int) (H : Int) (D : Int) = false := by first | exact fiOk_no5 (by assumption)); exact ⟨(none, 0), by simp only [fiF_no hs, fiS_no hs, fiI_no hs, fiL_no hs, hs]; rfl, hw.below, by rw [fiL_no hs]; simp [vl, Ent.at], List.pairwise_singleton _ _⟩)
      | ((have hs : fiOk ws (f1, f2, f3) st wi hi de = false := by first | exact fiOk_no1 (by assumption) | exact fiOk_no2 (by assumption) | exact fiOk_no3 (by assumption) | exact fiOk_no4 (by assumption) | exact fiOk_no4 (szOk_no1 (by assumption)).symm | exact fiOk_no4 (szOk_no2 (by assumption)).symm | exact fiOk_no4 (szOk_no3 (by assumption)).symm | exact fiOk_no4 (szOk_no4 (by omega))); exact ⟨(none, 0), by simp only [fiF_no hs, fiS_no hs, fiI_no hs, fiL_no hs, hs]; rfl, hw.below, by rw [fiL_no hs]; simp [vl, Ent.at], List.pairwise_singleton _ _⟩)
      | (have hm9 : (fin3 (f1, f2, f3) && above st) = false := by
           cases h8 : fin3 (f1, f2, f3)
           · rfl
           · cases h9 : above st
             · rfl
             · exfalso
               have := meshOk_last (n := W * H * D) h8 h9 hsz
               rw [hm] at this
               have e9 : icmp .eql ((W * H * D : Nat) : Int) ((W : Int) * (H : Int) * (D : Int)) = true := by show (_ == _) = true; rw [beq_iff_eq]; norm_cast
               rw [e9] at this; cases this
         rcases Bool.and_eq_false_iff.1 hm9 with h9 | h9
         · ((have hs : fiOk ws (f1, f2, f3) st (W : Int) (H : Int) (D : Int) = false := by first | exact fiOk_no2 h9); exact ⟨(none, 0), by simp only [fiF_no hs, fiS_no hs, fiI_no hs, fiL_no hs, hs]; rfl, hw.below, by rw [fiL_no hs]; simp [vl, Ent.at], List.pairwise_singleton _ _⟩)
         · ((have hs : fiOk ws (f1, f2, f3) st (W : Int) (H : Int) (D : Int) = false := by first | exact fiOk_no3 h9); exact ⟨(none, 0), by simp only [fiF_no hs, fiS_no hs, fiI_no hs, fiL_no hs, hs]; rfl, hw.below, by rw [fiL_no hs]; simp [vl, Ent.at], List.pairwise_singleton _ _⟩))
  · skip
    replace h1 := bnot_f h1
    refine VL.r (.inr ⟨_, _, _, rfl, rfl, rfl⟩) rfl (by decide) (yr_move rfl rfl) ?_
    refine VL.q (.inr ⟨_, _, _, rfl, rfl, rfl⟩) rfl (by decide) (yq_callf rfl known21_Fill (.cons rfl .nil) (fun w hw => c_isMS)) ?_
    refine VL.r (.inr ⟨_, _, _, rfl, rfl, rfl⟩) rfl (by decide) (yr_not rfl rfl) ?_
    refine VL.r (.inl rfl) rfl (by decide) (yr_pick_f rfl rfl rfl) ?_
    refine VL.r (.inl rfl) rfl (by decide) (yr_move rfl rfl) ?_
    refine VX.split 30 _ rfl (fun h3 => ?_) (fun h3 => ?_)
    · skip
      replace h3 := bnot_t h3
      refine VL.no rfl rfl rfl rfl rfl (by decide) ?_
      refine VL.no rfl rfl rfl rfl rfl (by decide) ?_
      refine VL.no rfl rfl rfl rfl rfl (by decide) ?_
      refine VL.r (.inl rfl) rfl (by decide) (yr_pick_t (u := .bool true) rfl rfl rfl) ?_
      refine VL.r (.inl rfl) rfl (by decide) (yr_move rfl rfl) ?_
      refine VL.no rfl rfl rfl rfl rfl (by decide) ?_
      refine VL.no rfl rfl rfl rfl rfl (by decide) ?_
      refine VL.no rfl rfl rfl rfl rfl (by decide) ?_
      refine VL.r (.inl rfl) rfl (by decide) (yr_pick_t (u := .bool true) rfl rfl rfl) ?_
      refine VL.r (.inl rfl) rfl (by decide) (yr_move rfl rfl) ?_
      refine VL.no rfl rfl rfl rfl rfl (by decide) ?_
      refine VL.no rfl rfl rfl rfl rfl (by decide) ?_
      refine VL.no rfl rfl rfl rfl rfl (by decide) ?_
      refine VL.no rfl rfl rfl rfl rfl (by decide) ?_
      refine VL.no rfl rfl rfl rfl rfl (by decide) ?_
      refine VL.no rfl rfl rfl rfl rfl (by decide) ?_
      refine VL.r (.inl rfl) rfl (by decide) (yr_pick_t (u := .bool true) rfl rfl rfl) ?_
      refine VL.nil ?_
      refine VE.then_wp ?_
      refine V.condT rfl ?_
      refine V.seq ?_
      refine V.region ?_
      refine VL.r (.inl rfl) rfl (by decide) (yr_build rfl lay35_Fill rfl .nil (by first | (simp; done) | (simp [vv]; done) | (simp [cn, cn1, cn0]; done)) rfl) ?_
      refine VL.s (.inl rfl) rfl (yc_store rfl sz35_Fill rfl rfl (by repeat (first | exact UpdF.here | apply UpdF.there | apply UpdF.thereS)) (.inr ⟨rfl, rfl⟩) rfl (by first | exact Nat.le_of_ble_eq_true rfl | simp) (by decide) rfl) ?_
      rintro ⟨⟩
      refine VL.r (.inl rfl) rfl (by decide) (yr_assign (u := .bool false) rfl rfl) ?_
      refine VL.nil ?_
      refine VE.then_wp ?_
      refine V.ret ?_
      refine VE.then_ret ?_
      refine retN rfl (.cons (rv_cellS rfl Try.underlying35 sz35_Fill (by first | exact Sees.root (by assumption) | exact Sees.own (by repeat (first | exact List.mem_cons_self | exact List.mem_append_left _ (by assumption) | apply List.mem_cons_of_mem | apply List.mem_append_right)) | exact Sees.root (hR _ (by omega)) | exact Sees.own (RowsIn.mem (by repeat (first | exact RowsIn.here | exact RowsIn.last | apply RowsIn.there | apply RowsIn.thereS)) _ (by omega)) | exact Sees.own (WRowsIn.mem (by repeat (first | exact WRowsIn.here | exact WRowsIn.last | apply WRowsIn.there | apply WRowsIn.thereS)) _ (by omega))) rfl rfl rfl) (.cons (rv_tmp rfl (by nofun)) .nil)) (by nofun) (fun w1 hw => ?_)
      first
        | (obtain ⟨m1, m2, _, _⟩ := meshOk_is hm
           have hk9 : okK ws (f1, f2, f3) st (W : Int).toNat (H : Int).toNat ((W : Int).toNat * (H : Int).toNat * (D : Int).toNat) = true := by assumption
           ((have hs : fiOk ws (f1, f2, f3) st (W : Int) (H : Int) (D : Int) = true := fiOk_yes (by assumption) m1 m2 (by assumption) (by assumption)); exact ⟨(p51.1, p51.2), by simp only [fiF_yes hs, fiS_yes hs, fiI_yes hs, fiL_yes hs, hs, fiK_length]; rfl, by rw [fiL_yes hs]; exact (hw.pick (by apply Pick.one; repeat (first | exact Rem.here | apply Rem.there))).out1⟩))
        | ((have hs : fiOk ws (f1, f2, f3) st (W : Int) (H : Int) (D : Int) = false := by first | exact fiOk_no5 (by assumption)); exact ⟨(none, 0), by simp only [fiF_no hs, fiS_no hs, fiI_no hs, fiL_no hs, hs]; rfl, hw.below, by rw [fiL_no hs]; simp [vl, Ent.at], List.pairwise_singleton _ _⟩)
        | ((have hs : fiOk ws (f1, f2, f3) st wi hi de = false := by first | exact fiOk_no1 (by assumption) | exact fiOk_no2 (by assumption) | exact fiOk_no3 (by assumption) | exact fiOk_no4 (by assumption) | exact fiOk_no4 (szOk_no1 (by assumption)).symm | exact fiOk_no4 (szOk_no2 (by assumption)).symm | exact fiOk_no4 (szOk_no3 (by assumption)).symm | exact fiOk_no4 (szOk_no4 (by omega))); exact ⟨(none, 0), by simp only [fiF_no hs, fiS_no hs, fiI_no hs, fiL_no hs, hs]; rfl, hw.below, by rw [fiL_no hs]; simp [vl, Ent.at], List.pairwise_singleton _ _⟩)
        | (have hm9 : (fin3 (f1, f2, f3) && above st) = false := by
             cases h8 : fin3 (f1, f2, f3)
             · rfl
             · cases h9 : above st
               · rfl
               · exfalso
                 have := meshOk_last (n := W * H * D) h8 h9 hsz
                 rw [hm] at this
                 have e9 : icmp .eql ((W * H * D : Nat) : Int) ((W : Int) * (H : Int) * (D : Int)) = true := by show (_ == _) = true; rw [beq_iff_eq]; norm_cast
                 rw [e9] at this; cases this
           rcases Bool.and_eq_false_iff.1 hm9 with h9 | h9
           · ((have hs : fiOk ws (f1, f2, f3) st (W : Int) (H : Int) (D : Int) = false := by first | exact fiOk_no2 h9); exact ⟨(none, 0), by simp only [fiF_no hs, fiS_no hs, fiI_no hs, fiL_no hs, hs]; rfl, hw.below, by rw [fiL_no hs]; simp [vl, Ent.at], List.pairwise_singleton _ _⟩)
           · ((have hs : fiOk ws (f1, f2, f3) st (W : Int) (H : Int) (D : Int) = false := by first | exact fiOk_no3 h9); exact ⟨(none, 0), by simp only [fiF_no hs, fiS_no hs, fiI_no hs, fiL_no hs, hs]; rfl, hw.below, by rw [fiL_no hs]; simp [vl, Ent.at], List.pairwise_singleton _ _⟩))
    · skip
      replace h3 := bnot_f h3
      refine VL.r (.inr ⟨_, _, _, rfl, rfl, rfl⟩) rfl (by decide) (yr_move rfl rfl) ?_
      refine VL.q (.inr ⟨_, _, _, rfl, rfl, rfl⟩) rfl (by decide) (yq_callf rfl known21_Fill (.cons rfl .nil) (fun w hw => c_isMS)) ?_
      refine VL.r (.inr ⟨_, _, _, rfl, rfl, rfl⟩) rfl (by decide) (yr_not rfl rfl) ?_
      refine VL.r (.inl rfl) rfl (by decide) (yr_pick_f rfl rfl rfl) ?_
      refine VL.r (.inl rfl) rfl (by decide) (yr_move rfl rfl) ?_
      refine VX.split 35 _ rfl (fun h5 => ?_) (fun h5 => ?_)
      · skip
        replace h5 := bnot_t h5
        refine VL.no rfl rfl rfl rfl rfl (by decide) ?_
        refine VL.no rfl rfl rfl rfl rfl (by decide) ?_
        refine VL.no rfl rfl rfl rfl rfl (by decide) ?_
        refine VL.r (.inl rfl) rfl (by decide) (yr_pick_t (u := .bool true) rfl rfl rfl) ?_
        refine VL.r (.inl rfl) rfl (by decide) (yr_move rfl rfl) ?_
        refine VL.no rfl rfl rfl rfl rfl (by decide) ?_
        refine VL.no rfl rfl rfl rfl rfl (by decide) ?_
        refine VL.no rfl rfl rfl rfl rfl (by decide) ?_
        refine VL.no rfl rfl rfl rfl rfl (by decide) ?_
        refine VL.no rfl rfl rfl rfl rfl (by decide) ?_
        refine VL.no rfl rfl rfl rfl rfl (by decide) ?_
        refine VL.r (.inl rfl) rfl (by decide) (yr_pick_t (u := .bool true) rfl rfl rfl) ?_
        refine VL.nil ?_
        refine VE.then_wp ?_
        refine V.condT rfl ?_
        refine V.seq ?_
        refine V.region ?_
        refine VL.r (.inl rfl) rfl (by decide) (yr_build rfl lay35_Fill rfl .nil (by first | (simp; done) | (simp [vv]; done) | (simp [cn, cn1, cn0]; done)) rfl) ?_
        refine VL.s (.inl rfl) rfl (yc_store rfl sz35_Fill rfl rfl (by repeat (first | exact UpdF.here | apply UpdF.there | apply UpdF.thereS)) (.inr ⟨rfl, rfl⟩) rfl (by first | exact Nat.le_of_ble_eq_true rfl | simp) (by decide) rfl) ?_
        rintro ⟨⟩
        refine VL.r (.inl rfl) rfl (by decide) (yr_assign (u := .bool false) rfl rfl) ?_
        refine VL.nil ?_
        refine VE.then_wp ?_
        refine V.ret ?_
        refine VE.then_ret ?_
        refine retN rfl (.cons (rv_cellS rfl Try.underlying35 sz35_Fill (by first | exact Sees.root (by assumption) | exact Sees.own (by repeat (first | exact List.mem_cons_self | exact List.mem_append_left _ (by assumption) | apply List.mem_cons_of_mem | apply List.mem_append_right)) | exact Sees.root (hR _ (by omega)) | exact Sees.own (RowsIn.mem (by repeat (first | exact RowsIn.here | exact RowsIn.last | apply RowsIn.there | apply RowsIn.thereS)) _ (by omega)) | exact Sees.own (WRowsIn.mem (by repeat (first | exact WRowsIn.here | exact WRowsIn.last | apply WRowsIn.there | apply WRowsIn.thereS)) _ (by omega))) rfl rfl rfl) (.cons (rv_tmp rfl (by nofun)) .nil)) (by nofun) (fun w1 hw => ?_)
        first
          | (obtain ⟨m1, m2, _, _⟩ := meshOk_is hm
             have hk9 : okK ws (f1, f2, f3) st (W : Int).toNat (H : Int).toNat ((W : Int).toNat * (H : Int).toNat * (D : Int).toNat) = true := by assumption
             ((have hs : fiOk ws (f1, f2, f3) st (W : Int) (H : Int) (D : Int) = true := fiOk_yes (by assumption) m1 m2 (by assumption) (by assumption)); exact ⟨(p51.1, p51.2), by simp only [fiF_yes hs, fiS_yes hs, fiI_yes hs, fiL_yes hs, hs, fiK_length]; rfl, by rw [fiL_yes hs]; exact (hw.pick (by apply Pick.one; repeat (first | exact Rem.here | apply Rem.there))).out1⟩))
          | ((have hs : fiOk ws (f1, f2, f3) st (W : Int) (H : Int) (D : Int) = false := by first | exact fiOk_no5 (by assumption)); exact ⟨(none, 0), by simp only [fiF_no hs, fiS_no hs, fiI_no hs, fiL_no hs, hs]; rfl, hw.below, by rw [fiL_no hs]; simp [vl, Ent.at], List.pairwise_singleton _ _⟩)
          | ((have hs : fiOk ws (f1, f2, f3) st wi hi de = false := by first | exact fiOk_no1 (by assumption) | exact fiOk_no2 (by assumption) | exact fiOk_no3 (by assumption) | exact fiOk_no4 (by assumption) | exact fiOk_no4 (szOk_no1 (by assumption)).symm | exact fiOk_no4 (szOk_no2 (by assumption)).symm | exact fiOk_no4 (szOk_no3 (by assumption)).symm | exact fiOk_no4 (szOk_no4 (by omega))); exact ⟨(none, 0), by simp only [fiF_no hs, fiS_no hs, fiI_no hs, fiL_no hs, hs]; rfl, hw.below, by rw [fiL_no hs]; simp [vl, Ent.at], List.pairwise_singleton _ _⟩)
          | (have hm9 : (fin3 (f1, f2, f3) && above st) = false := by
               cases h8 : fin3 (f1, f2, f3)
               · rfl
               · cases h9 : above st
                 · rfl
                 · exfalso
                   have := meshOk_last (n := W * H * D) h8 h9 hsz
                   rw [hm] at this
                   have e9 : icmp .eql ((W * H * D : Nat) : Int) ((W : Int) * (H : Int) * (D : Int)) = true := by show (_ == _) = true; rw [beq_iff_eq]; norm_cast
                   rw [e9] at this; cases this
             rcases Bool.and_eq_false_iff.1 hm9 with h9 | h9
             · ((have hs : fiOk ws (f1, f2, f3) st (W : Int) (H : Int) (D : Int) = false := by first | exact fiOk_no2 h9); exact ⟨(none, 0), by simp only [fiF_no hs, fiS_no hs, fiI_no hs, fiL_no hs, hs]; rfl, hw.below, by rw [fiL_no hs]; simp [vl, Ent.at], List.pairwise_singleton _ _⟩)
             · ((have hs : fiOk ws (f1, f2, f3) st (W : Int) (H : Int) (D : Int) = false := by first | exact fiOk_no3 h9); exact ⟨(none, 0), by simp only [fiF_no hs, fiS_no hs, fiI_no hs, fiL_no hs, hs]; rfl, hw.below, by rw [fiL_no hs]; simp [vl, Ent.at], List.pairwise_singleton _ _⟩))
      · skip
        replace h5 := bnot_f h5
        refine VL.r (.inr ⟨_, _, _, rfl, rfl, rfl⟩) rfl (by decide) (yr_move rfl rfl) ?_
        refine VL.q (.inr ⟨_, _, _, rfl, rfl, rfl⟩) rfl (by decide) (yq_callf rfl known21_Fill (.cons rfl .nil) (fun w hw => c_isMS)) ?_
        refine VL.r (.inr ⟨_, _, _, rfl, rfl, rfl⟩) rfl (by decide) (yr_not rfl rfl) ?_
        refine VL.r (.inl rfl) rfl (by decide) (yr_pick_f rfl rfl rfl) ?_
        refine VL.r (.inl rfl) rfl (by decide) (yr_move rfl rfl) ?_
        refine VX.split 40 _ rfl (fun h7 => ?_) (fun h7 => ?_)
        · skip
          replace h7 := bnot_t h7
          refine VL.no rfl rfl rfl rfl rfl (by decide) ?_
          refine VL.no rfl rfl rfl rfl rfl (by decide) ?_
          refine VL.no rfl rfl rfl rfl rfl (by decide) ?_
          refine VL.no rfl rfl rfl rfl rfl (by decide) ?_
          refine VL.no rfl rfl rfl rfl rfl (by decide) ?_
          refine VL.no rfl rfl rfl rfl rfl (by decide) ?_
          refine VL.r (.inl rfl) rfl (by decide) (yr_pick_t (u := .bool true) rfl rfl rfl) ?_
          refine VL.nil ?_
          refine VE.then_wp ?_
          refine V.condT rfl ?_
          refine V.seq ?_
          refine V.region ?_
          refine VL.r (.inl rfl) rfl (by decide) (yr_build rfl lay35_Fill rfl .nil (by first | (simp; done) | (simp [vv]; done) | (simp [cn, cn1, cn0]; done)) rfl) ?_
          refine VL.s (.inl rfl) rfl (yc_store rfl sz35_Fill rfl rfl (by repeat (first | exact UpdF.here | apply UpdF.there | apply UpdF.thereS)) (.inr ⟨rfl, rfl⟩) rfl (by first | exact Nat.le_of_ble_eq_true rfl | simp) (by decide) rfl) ?_
          rintro ⟨⟩
          refine VL.r (.inl rfl) rfl (by decide) (yr_assign (u := .bool false) rfl rfl) ?_
          refine VL.nil ?_
          refine VE.then_wp ?_
          refine V.ret ?_
          refine VE.then_ret ?_
          refine retN rfl (.cons (rv_cellS rfl Try.underlying35 sz35_Fill (by first | exact Sees.root (by assumption) | exact Sees.own (by repeat (first | exact List.mem_cons_self | exact List.mem_append_left _ (by assumption) | apply List.mem_cons_of_mem | apply List.mem_append_right)) | exact Sees.root (hR _ (by omega)) | exact Sees.own (RowsIn.mem (by repeat (first | exact RowsIn.here | exact RowsIn.last | apply RowsIn.there | apply RowsIn.thereS)) _ (by omega)) | exact Sees.own (WRowsIn.mem (by repeat (first | exact WRowsIn.here | exact WRowsIn.last | apply WRowsIn.there | apply WRowsIn.thereS)) _ (by omega))) rfl rfl rfl) (.cons (rv_tmp rfl (by nofun)) .nil)) (by nofun) (fun w1 hw => ?_)
          first
            | (obtain ⟨m1, m2, _, _⟩ := meshOk_is hm
               have hk9 : okK ws (f1, f2, f3) st (W : Int).toNat (H : Int).toNat ((W : Int).toNat * (H : Int).toNat * (D : Int).toNat) = true := by assumption
               ((have hs : fiOk ws (f1, f2, f3) st (W : Int) (H : Int) (D : Int) = true := fiOk_yes (by assumption) m1 m2 (by assumption) (by assumption)); exact ⟨(p51.1, p51.2), by simp only [fiF_yes hs, fiS_yes hs, fiI_yes hs, fiL_yes hs, hs, fiK_length]; rfl, by rw [fiL_yes hs]; exact (hw.pick (by apply Pick.one; repeat (first | exact Rem.here | apply Rem.there))).out1⟩))
            | ((have hs : fiOk ws (f1, f2, f3) st (W : Int) (H : Int) (D : Int) = false := by first | exact fiOk_no5 (by assumption)); exact ⟨(none, 0), by simp only [fiF_no hs, fiS_no hs, fiI_no hs, fiL_no hs, hs]; rfl, hw.below, by rw [fiL_no hs]; simp [vl, Ent.at], List.pairwise_singleton _ _⟩)
            | ((have hs : fiOk ws (f1, f2, f3) st wi hi de = false := by first | exact fiOk_no1 (by assumption) | exact fiOk_no2 (by assumption) | exact fiOk_no3 (by assumption) | exact fiOk_no4 (by assumption) | exact fiOk_no4 (szOk_no1 (by assumption)).symm | exact fiOk_no4 (szOk_no2 (by assumption)).symm | exact fiOk_no4 (szOk_no3 (by assumption)).symm | exact fiOk_no4 (szOk_no4 (by omega))); exact ⟨(none, 0), by simp only [fiF_no hs, fiS_no hs, fiI_no hs, fiL_no hs, hs]; rfl, hw.below, by rw [fiL_no hs]; simp [vl, Ent.at], List.pairwise_singleton _ _⟩)
            | (have hm9 : (fin3 (f1, f2, f3) && above st) = false := by
                 cases h8 : fin3 (f1, f2, f3)
                 · rfl
                 · cases h9 : above st
                   · rfl
                   · exfalso
                     have := meshOk_last (n := W * H * D) h8 h9 hsz
                     rw [hm] at this
                     have e9 : icmp .eql ((W * H * D : Nat) : Int) ((W : Int) * (H : Int) * (D : Int)) = true := by show (_ == _) = true; rw [beq_iff_eq]; norm_cast
                     rw [e9] at this; cases this
               rcases Bool.and_eq_false_iff.1 hm9 with h9 | h9
               · ((have hs : fiOk ws (f1, f2, f3) st (W : Int) (H : Int) (D : Int) = false := by first | exact fiOk_no2 h9); exact ⟨(none, 0), by simp only [fiF_no hs, fiS_no hs, fiI_no hs, fiL_no hs, hs]; rfl, hw.below, by rw [fiL_no hs]; simp [vl, Ent.at], List.pairwise_singleton _ _⟩)
               · ((have hs : fiOk ws (f1, f2, f3) st (W : Int) (H : Int) (D : Int) = false := by first | exact fiOk_no3 h9); exact ⟨(none, 0), by simp only [fiF_no hs, fiS_no hs, fiI_no hs, fiL_no hs, hs]; rfl, hw.below, by rw [fiL_no hs]; simp [vl, Ent.at], List.pairwise_singleton _ _⟩))
        · skip
          replace h7 := bnot_f h7
          have hb := mesh_mul (wi := wi) (hi := hi) (de := de) (by assumption) (by assumption) (by assumption)
          refine VL.r (.inr ⟨_, _, _, rfl, rfl, rfl⟩) rfl (by decide) (yr_move rfl rfl) ?_
          refine VL.r (.inr ⟨_, _, _, rfl, rfl, rfl⟩) rfl (by decide) (yr_move rfl rfl) ?_
          refine VL.r (.inr ⟨_, _, _, rfl, rfl, rfl⟩) rfl (by decide) (yr_int rfl rfl rfl (.inr (.inr ⟨rfl, wrap_in (by omega)⟩))) ?_
          refine VL.r (.inr ⟨_, _, _, rfl, rfl, rfl⟩) rfl (by decide) (yr_move rfl rfl) ?_
          refine VL.r (.inr ⟨_, _, _, rfl, rfl, rfl⟩) rfl (by decide) (yr_int rfl rfl rfl (.inr (.inr ⟨rfl, wrap_in (by omega)⟩))) ?_
          refine VL.r (.inr ⟨_, _, _, rfl, rfl, rfl⟩) rfl (by decide) (yr_icmp rfl (.inr (.inr (.inr (.inr (.inl rfl))))) rfl rfl) ?_
          refine VL.r (.inl rfl) rfl (by decide) (yr_pick_f rfl rfl rfl) ?_
          refine VL.nil ?_
          refine VE.then_wp ?_
          refine V.cond rfl (fun h9 => ?_) (fun h9 => ?_)
          · skip
            replace h9 := ic_gtr h9
            refine V.seq ?_
            refine V.region ?_
            refine VL.r (.inl rfl) rfl (by decide) (yr_build rfl lay35_Fill rfl .nil (by first | (simp; done) | (simp [vv]; done) | (simp [cn, cn1, cn0]; done)) rfl) ?_
            refine VL.s (.inl rfl) rfl (yc_store rfl sz35_Fill rfl rfl (by repeat (first | exact UpdF.here | apply UpdF.there | apply UpdF.thereS)) (.inr ⟨rfl, rfl⟩) rfl (by first | exact Nat.le_of_ble_eq_true rfl | simp) (by decide) rfl) ?_
            rintro ⟨⟩
            refine VL.r (.inl rfl) rfl (by decide) (yr_assign (u := .bool false) rfl rfl) ?_
            refine VL.nil ?_
            refine VE.then_wp ?_
            refine V.ret ?_
            refine VE.then_ret ?_
            refine retN rfl (.cons (rv_cellS rfl Try.underlying35 sz35_Fill (by first | exact Sees.root (by assumption) | exact Sees.own (by repeat (first | exact List.mem_cons_self | exact List.mem_append_left _ (by assumption) | apply List.mem_cons_of_mem | apply List.mem_append_right)) | exact Sees.root (hR _ (by omega)) | exact Sees.own (RowsIn.mem (by repeat (first | exact RowsIn.here | exact RowsIn.last | apply RowsIn.there | apply RowsIn.thereS)) _ (by omega)) | exact Sees.own (WRowsIn.mem (by repeat (first | exact WRowsIn.here | exact WRowsIn.last | apply WRowsIn.there | apply WRowsIn.thereS)) _ (by omega))) rfl rfl rfl) (.cons (rv_tmp rfl (by nofun)) .nil)) (by nofun) (fun w1 hw => ?_)
            first
              | (obtain ⟨m1, m2, _, _⟩ := meshOk_is hm
                 have hk9 : okK ws (f1, f2, f3) st (W : Int).toNat (H : Int).toNat ((W : Int).toNat * (H : Int).toNat * (D : Int).toNat) = true := by assumption
                 ((have hs : fiOk ws (f1, f2, f3) st (W : Int) (H : Int) (D : Int) = true := fiOk_yes (by assumption) m1 m2 (by assumption) (by assumption)); exact ⟨(p51.1, p51.2), by simp only [fiF_yes hs, fiS_yes hs, fiI_yes hs, fiL_yes hs, hs, fiK_length]; rfl, by rw [fiL_yes hs]; exact (hw.pick (by apply Pick.one; repeat (first | exact Rem.here | apply Rem.there))).out1⟩))
              | ((have hs : fiOk ws (f1, f2, f3) st (W : Int) (H : Int) (D : Int) = false := by first | exact fiOk_no5 (by assumption)); exact ⟨(none, 0), by simp only [fiF_no hs, fiS_no hs, fiI_no hs, fiL_no hs, hs]; rfl, hw.below, by rw [fiL_no hs]; simp [vl, Ent.at], List.pairwise_singleton _ _⟩)
              | ((have hs : fiOk ws (f1, f2, f3) st wi hi de = false := by first | exact fiOk_no1 (by assumption) | exact fiOk_no2 (by assumption) | exact fiOk_no3 (by assumption) | exact fiOk_no4 (by assumption) | exact fiOk_no4 (szOk_no1 (by assumption)).symm | exact fiOk_no4 (szOk_no2 (by assumption)).symm | exact fiOk_no4 (szOk_no3 (by assumption)).symm | exact fiOk_no4 (szOk_no4 (by omega))); exact ⟨(none, 0), by simp only [fiF_no hs, fiS_no hs, fiI_no hs, fiL_no hs, hs]; rfl, hw.below, by rw [fiL_no hs]; simp [vl, Ent.at], List.pairwise_singleton _ _⟩)
              | (have hm9 : (fin3 (f1, f2, f3) && above st) = false := by
                   cases h8 : fin3 (f1, f2, f3)
                   · rfl
                   · cases h9 : above st
                     · rfl
                     · exfalso
                       have := meshOk_last (n := W * H * D) h8 h9 hsz
                       rw [hm] at this
                       have e9 : icmp .eql ((W * H * D : Nat) : Int) ((W : Int) * (H : Int) * (D : Int)) = true := by show (_ == _) = true; rw [beq_iff_eq]; norm_cast
                       rw [e9] at this; cases this
                 rcases Bool.and_eq_false_iff.1 hm9 with h9 | h9
                 · ((have hs : fiOk ws (f1, f2, f3) st (W : Int) (H : Int) (D : Int) = false := by first | exact fiOk_no2 h9); exact ⟨(none, 0), by simp only [fiF_no hs, fiS_no hs, fiI_no hs, fiL_no hs, hs]; rfl, hw.below, by rw [fiL_no hs]; simp [vl, Ent.at], List.pairwise_singleton _ _⟩)
                 · ((have hs : fiOk ws (f1, f2, f3) st (W : Int) (H : Int) (D : Int) = false := by first | exact fiOk_no3 h9); exact ⟨(none, 0), by simp only [fiF_no hs, fiS_no hs, fiI_no hs, fiL_no hs, hs]; rfl, hw.below, by rw [fiL_no hs]; simp [vl, Ent.at], List.pairwise_singleton _ _⟩))
          · skip
            replace h9 := ic_gtr' h9
            have hsz : szOk wi hi de = true := szOk_yes (by assumption) (by assumption) (by assumption) (by omega)
            obtain ⟨W, H, D, rfl, rfl, rfl, q1, q2, q3, q4, q5, q6, hbd⟩ := szOk_is hsz
            have hWH : W * H ≤ 216 := Nat.le_trans (Nat.le_mul_of_pos_right _ q3) hbd
            refine VX.own (fun w hw => hw.nil 32) ?_
            refine V.skip ?_
            refine VE.then_wp ?_
            refine V.seq ?_
            refine V.region ?_
            refine VL.new1 (.inl rfl) rfl (by decide) (yn_alloc rfl zero4_Fill rfl) ?_
            intro b15
            refine VL.s (.inl rfl) rfl (yc_store rfl sz4_Fill rfl rfl (by repeat (first | exact UpdF.here | apply UpdF.there | apply UpdF.thereS)) (.inl ⟨rfl, rfl⟩) rfl (by first | exact Nat.le_of_ble_eq_true rfl | simp) (by decide) rfl) ?_
            rintro ⟨⟩
            refine VL.nil ?_
            refine VE.then_wp ?_
            refine V.seq ?_
            refine V.region ?_
            refine VL.q (.inl rfl) rfl (by decide) (yq_loadS rfl Try.underlying35 sz35_Fill rfl (by first | exact Sees.root (by assumption) | exact Sees.own (by repeat (first | exact List.mem_cons_self | exact List.mem_append_left _ (by assumption) | apply List.mem_cons_of_mem | apply List.mem_append_right)) | exact Sees.root (hR _ (by omega)) | exact Sees.own (RowsIn.mem (by repeat (first | exact RowsIn.here | exact RowsIn.last | apply RowsIn.there | apply RowsIn.thereS)) _ (by omega)) | exact Sees.own (WRowsIn.mem (by repeat (first | exact WRowsIn.here | exact WRowsIn.last | apply WRowsIn.there | apply WRowsIn.thereS)) _ (by omega))) rfl rfl rfl) ?_
            refine VL.r (.inl rfl) rfl (by decide) (yr_func3 rfl rfl rfl rfl) ?_
            refine VL.c (.inl rfl) rfl (by decide) (yc_callf rfl known22_Fill (.cons rfl (.cons rfl .nil)) (by apply Pick.e4; all_goals (repeat (first | exact Rem.here | apply Rem.there))) (c_each (vs := []) (X := Option Addr × Nat) (S := (fun k (p : Option Addr × Nat) => [⟨some ⟨b6, 0, none⟩, [.slice a ws.length c], 1, 30⟩, ⟨some ⟨b14, 0, none⟩, [.float .f32 f1, .float .f32 f2, .float .f32 f3, .float .f32 st, .int .i64 (W : Int), .int .i64 (H : Int), .int .i64 (D : Int), .slice p.1 (k) p.2], 8, 35⟩, ⟨some ⟨b15, 0, none⟩, [.bool (okK ws (f1, f2, f3) st W H (k))], 1, 4⟩, ⟨p.1, vl (fiK ws (f1, f2, f3) st W H (k)), p.2 * 3, 32⟩])) (x0 := (none, 0)) ⟨q4, q5, q6⟩ known23_Fill (fun x y z s hx hy hz => c_fillNode hA hR (by omega) (by assumption) hbd hx hy hz))) ?_
            intro p51
            refine VL.nil ?_
            refine VE.then_wp ?_
            refine V.seq ?_
            refine V.seq ?_
            refine V.region ?_
            refine VL.q (.inl rfl) rfl (by decide) (yq_load rfl fb4_Fill rfl (by first | exact Sees.root (by assumption) | exact Sees.own (by repeat (first | exact List.mem_cons_self | exact List.mem_append_left _ (by assumption) | apply List.mem_cons_of_mem | apply List.mem_append_right)) | exact Sees.root (hR _ (by omega)) | exact Sees.own (RowsIn.mem (by repeat (first | exact RowsIn.here | exact RowsIn.last | apply RowsIn.there | apply RowsIn.thereS)) _ (by omega)) | exact Sees.own (WRowsIn.mem (by repeat (first | exact WRowsIn.here | exact WRowsIn.last | apply WRowsIn.there | apply WRowsIn.thereS)) _ (by omega))) rfl) ?_
            refine VL.r (.inl rfl) rfl (by decide) (yr_not rfl rfl) ?_
            refine VL.nil ?_
            refine VE.then_wp ?_
            refine V.cond rfl (fun h10 => ?_) (fun h10 => ?_)
            · skip
              replace h10 := bnot_t h10
              refine V.seq ?_
              refine V.region ?_
              refine VL.r (.inl rfl) rfl (by decide) (yr_build rfl lay35_Fill rfl .nil (by first | (simp; done) | (simp [vv]; done) | (simp [cn, cn1, cn0]; done)) rfl) ?_
              refine VL.s (.inl rfl) rfl (yc_store rfl sz35_Fill rfl rfl (by repeat (first | exact UpdF.here | apply UpdF.there | apply UpdF.thereS)) (.inr ⟨rfl, rfl⟩) rfl (by first | exact Nat.le_of_ble_eq_true rfl | simp) (by decide) rfl) ?_
              rintro ⟨⟩
              refine VL.r (.inl rfl) rfl (by decide) (yr_assign (u := .bool false) rfl rfl) ?_
              refine VL.nil ?_
              refine VE.then_wp ?_
              refine V.ret ?_
              refine VE.then_ret ?_
              refine retN rfl (.cons (rv_cellS rfl Try.underlying35 sz35_Fill (by first | exact Sees.root (by assumption) | exact Sees.own (by repeat (first | exact List.mem_cons_self | exact List.mem_append_left _ (by assumption) | apply List.mem_cons_of_mem | apply List.mem_append_right)) | exact Sees.root (hR _ (by omega)) | exact Sees.own (RowsIn.mem (by repeat (first | exact RowsIn.here | exact RowsIn.last | apply RowsIn.there | apply RowsIn.thereS)) _ (by omega)) | exact Sees.own (WRowsIn.mem (by repeat (first | exact WRowsIn.here | exact WRowsIn.last | apply WRowsIn.there | apply WRowsIn.thereS)) _ (by omega))) rfl rfl rfl) (.cons (rv_tmp rfl (by nofun)) .nil)) (by nofun) (fun w1 hw => ?_)
              first
                | (obtain ⟨m1, m2, _, _⟩ := meshOk_is hm
                   have hk9 : okK ws (f1, f2, f3) st (W : Int).toNat (H : Int).toNat ((W : Int).toNat * (H : Int).toNat * (D : Int).toNat) = true := by assumption
                   ((have hs : fiOk ws (f1, f2, f3) st (W : Int) (H : Int) (D : Int) = true := fiOk_yes (by assumption) m1 m2 (by assumption) (by assumption)); exact ⟨(p51.1, p51.2), by simp only [fiF_yes hs, fiS_yes hs, fiI_yes hs, fiL_yes hs, hs, fiK_length]; rfl, by rw [fiL_yes hs]; exact (hw.pick (by apply Pick.one; repeat (first | exact Rem.here | apply Rem.there))).out1⟩))
                | ((have hs : fiOk ws (f1, f2, f3) st (W : Int) (H : Int) (D : Int) = false := by first | exact fiOk_no5 (by assumption)); exact ⟨(none, 0), by simp only [fiF_no hs, fiS_no hs, fiI_no hs, fiL_no hs, hs]; rfl, hw.below, by rw [fiL_no hs]; simp [vl, Ent.at], List.pairwise_singleton _ _⟩)
                | ((have hs : fiOk ws (f1, f2, f3) st wi hi de = false := by first | exact fiOk_no1 (by assumption) | exact fiOk_no2 (by assumption) | exact fiOk_no3 (by assumption) | exact fiOk_no4 (by assumption) | exact fiOk_no4 (szOk_no1 (by assumption)).symm | exact fiOk_no4 (szOk_no2 (by assumption)).symm | exact fiOk_no4 (szOk_no3 (by assumption)).symm | exact fiOk_no4 (szOk_no4 (by omega))); exact ⟨(none, 0), by simp only [fiF_no hs, fiS_no hs, fiI_no hs, fiL_no hs, hs]; rfl, hw.below, by rw [fiL_no hs]; simp [vl, Ent.at], List.pairwise_singleton _ _⟩)
                | (have hm9 : (fin3 (f1, f2, f3) && above st) = false := by
                     cases h8 : fin3 (f1, f2, f3)
                     · rfl
                     · cases h9 : above st
                       · rfl
                       · exfalso
                         have := meshOk_last (n := W * H * D) h8 h9 hsz
                         rw [hm] at this
                         have e9 : icmp .eql ((W * H * D : Nat) : Int) ((W : Int) * (H : Int) * (D : Int)) = true := by show (_ == _) = true; rw [beq_iff_eq]; norm_cast
                         rw [e9] at this; cases this
                   rcases Bool.and_eq_false_iff.1 hm9 with h9 | h9
                   · ((have hs : fiOk ws (f1, f2, f3) st (W : Int) (H : Int) (D : Int) = false := by first | exact fiOk_no2 h9); exact ⟨(none, 0), by simp only [fiF_no hs, fiS_no hs, fiI_no hs, fiL_no hs, hs]; rfl, hw.below, by rw [fiL_no hs]; simp [vl, Ent.at], List.pairwise_singleton _ _⟩)
                   · ((have hs : fiOk ws (f1, f2, f3) st (W : Int) (H : Int) (D : Int) = false := by first | exact fiOk_no3 h9); exact ⟨(none, 0), by simp only [fiF_no hs, fiS_no hs, fiI_no hs, fiL_no hs, hs]; rfl, hw.below, by rw [fiL_no hs]; simp [vl, Ent.at], List.pairwise_singleton _ _⟩))
            · skip
              replace h10 := bnot_f h10
              refine V.skip ?_
              refine VE.then_wp ?_
              refine V.seq ?_
              refine V.region ?_
              refine VL.q (.inl rfl) rfl (by decide) (yq_loadS rfl Try.underlying35 sz35_Fill rfl (by first | exact Sees.root (by assumption) | exact Sees.own (by repeat (first | exact List.mem_cons_self | exact List.mem_append_left _ (by assumption) | apply List.mem_cons_of_mem | apply List.mem_append_right)) | exact Sees.root (hR _ (by omega)) | exact Sees.own (RowsIn.mem (by repeat (first | exact RowsIn.here | exact RowsIn.last | apply RowsIn.there | apply RowsIn.thereS)) _ (by omega)) | exact Sees.own (WRowsIn.mem (by repeat (first | exact WRowsIn.here | exact WRowsIn.last | apply WRowsIn.there | apply WRowsIn.thereS)) _ (by omega))) rfl rfl rfl) ?_
              rcases Bool.eq_false_or_eq_true (meshOk (f1, f2, f3) st (W : Int) (H : Int) (D : Int) (W * H * D)) with hm | hm
              · skip
                refine VL.q (.inl rfl) rfl (by decide) (yq_callf rfl known26_Fill (.cons rfl .nil) (fun w hw => (c_ifMeshY hm))) ?_
                refine VL.r (.inl rfl) rfl (by decide) (yr_extract rfl rfl rfl (by nofun)) ?_
                refine VL.r (.inl rfl) rfl (by decide) (yr_extract rfl rfl rfl (by nofun)) ?_
                refine VL.s (.inl rfl) rfl (yc_store rfl sz35_Fill rfl rfl (by repeat (first | exact UpdF.here | apply UpdF.there | apply UpdF.thereS)) (.inr ⟨rfl, rfl⟩) rfl (by first | exact Nat.le_of_ble_eq_true rfl | simp) (by decide) rfl) ?_
                rintro ⟨⟩
                refine VL.r (.inl rfl) rfl (by decide) (yr_assign rfl rfl) ?_
                refine VL.nil ?_
                refine VE.then_wp ?_
                refine V.ret ?_
                refine retN rfl (.cons (rv_cellS rfl Try.underlying35 sz35_Fill (by first | exact Sees.root (by assumption) | exact Sees.own (by repeat (first | exact List.mem_cons_self | exact List.mem_append_left _ (by assumption) | apply List.mem_cons_of_mem | apply List.mem_append_right)) | exact Sees.root (hR _ (by omega)) | exact Sees.own (RowsIn.mem (by repeat (first | exact RowsIn.here | exact RowsIn.last | apply RowsIn.there | apply RowsIn.thereS)) _ (by omega)) | exact Sees.own (WRowsIn.mem (by repeat (first | exact WRowsIn.here | exact WRowsIn.last | apply WRowsIn.there | apply WRowsIn.thereS)) _ (by omega))) rfl rfl rfl) (.cons (rv_tmp rfl (by nofun)) .nil)) (by nofun) (fun w1 hw => ?_)
                first
                  | (obtain ⟨m1, m2, _, _⟩ := meshOk_is hm
                     have hk9 : okK ws (f1, f2, f3) st (W : Int).toNat (H : Int).toNat ((W : Int).toNat * (H : Int).toNat * (D : Int).toNat) = true := by assumption
                     ((have hs : fiOk ws (f1, f2, f3) st (W : Int) (H : Int) (D : Int) = true := fiOk_yes (by assumption) m1 m2 (by assumption) (by assumption)); exact ⟨(p51.1, p51.2), by simp only [fiF_yes hs, fiS_yes hs, fiI_yes hs, fiL_yes hs, hs, fiK_length]; rfl, by rw [fiL_yes hs]; exact (hw.pick (by apply Pick.one; repeat (first | exact Rem.here | apply Rem.there))).out1⟩))
                  | ((have hs : fiOk ws (f1, f2, f3) st (W : Int) (H : Int) (D : Int) = false := by first | exact fiOk_no5 (by assumption)); exact ⟨(none, 0), by simp only [fiF_no hs, fiS_no hs, fiI_no hs, fiL_no hs, hs]; rfl, hw.below, by rw [fiL_no hs]; simp [vl, Ent.at], List.pairwise_singleton _ _⟩)
                  | ((have hs : fiOk ws (f1, f2, f3) st wi hi de = false := by first | exact fiOk_no1 (by assumption) | exact fiOk_no2 (by assumption) | exact fiOk_no3 (by assumption) | exact fiOk_no4 (by assumption) | exact fiOk_no4 (szOk_no1 (by assumption)).symm | exact fiOk_no4 (szOk_no2 (by assumption)).symm | exact fiOk_no4 (szOk_no3 (by assumption)).symm | exact fiOk_no4 (szOk_no4 (by omega))); exact ⟨(none, 0), by simp only [fiF_no hs, fiS_no hs, fiI_no hs, fiL_no hs, hs]; rfl, hw.below, by rw [fiL_no hs]; simp [vl, Ent.at], List.pairwise_singleton _ _⟩)
                  | (have hm9 : (fin3 (f1, f2, f3) && above st) = false := by
                       cases h8 : fin3 (f1, f2, f3)
                       · rfl
                       · cases h9 : above st
                         · rfl
                         · exfalso
                           have := meshOk_last (n := W * H * D) h8 h9 hsz
                           rw [hm] at this
                           have e9 : icmp .eql ((W * H * D : Nat) : Int) ((W : Int) * (H : Int) * (D : Int)) = true := by show (_ == _) = true; rw [beq_iff_eq]; norm_cast
                           rw [e9] at this; cases this
                     rcases Bool.and_eq_false_iff.1 hm9 with h9 | h9
                     · ((have hs : fiOk ws (f1, f2, f3) st (W : Int) (H : Int) (D : Int) = false := by first | exact fiOk_no2 h9); exact ⟨(none, 0), by simp only [fiF_no hs, fiS_no hs, fiI_no hs, fiL_no hs, hs]; rfl, hw.below, by rw [fiL_no hs]; simp [vl, Ent.at], List.pairwise_singleton _ _⟩)
                     · ((have hs : fiOk ws (f1, f2, f3) st (W : Int) (H : Int) (D : Int) = false := by first | exact fiOk_no3 h9); exact ⟨(none, 0), by simp only [fiF_no hs, fiS_no hs, fiI_no hs, fiL_no hs, hs]; rfl, hw.below, by rw [fiL_no hs]; simp [vl, Ent.at], List.pairwise_singleton _ _⟩))
              · skip
                refine VL.q (.inl rfl) rfl (by decide) (yq_callf rfl known26_Fill (.cons rfl .nil) (fun w hw => (c_ifMeshN hm))) ?_
                refine VL.r (.inl rfl) rfl (by decide) (yr_extract rfl rfl rfl (by nofun)) ?_
                refine VL.r (.inl rfl) rfl (by decide) (yr_extract rfl rfl rfl (by nofun)) ?_
                refine VL.s (.inl rfl) rfl (yc_store rfl sz35_Fill rfl rfl (by repeat (first | exact UpdF.here | apply UpdF.there | apply UpdF.thereS)) (.inr ⟨rfl, rfl⟩) rfl (by first | exact Nat.le_of_ble_eq_true rfl | simp) (by decide) rfl) ?_
                rintro ⟨⟩
                refine VL.r (.inl rfl) rfl (by decide) (yr_assign rfl rfl) ?_
                refine VL.nil ?_
                refine VE.then_wp ?_
                refine V.ret ?_
                refine retN rfl (.cons (rv_cellS rfl Try.underlying35 sz35_Fill (by first | exact Sees.root (by assumption) | exact Sees.own (by repeat (first | exact List.mem_cons_self | exact List.mem_append_left _ (by assumption) | apply List.mem_cons_of_mem | apply List.mem_append_right)) | exact Sees.root (hR _ (by omega)) | exact Sees.own (RowsIn.mem (by repeat (first | exact RowsIn.here | exact RowsIn.last | apply RowsIn.there | apply RowsIn.thereS)) _ (by omega)) | exact Sees.own (WRowsIn.mem (by repeat (first | exact WRowsIn.here | exact WRowsIn.last | apply WRowsIn.there | apply WRowsIn.thereS)) _ (by omega))) rfl rfl rfl) (.cons (rv_tmp rfl (by nofun)) .nil)) (by nofun) (fun w1 hw => ?_)
                first
                  | (obtain ⟨m1, m2, _, _⟩ := meshOk_is hm
                     have hk9 : okK ws (f1, f2, f3) st (W : Int).toNat (H : Int).toNat ((W : Int).toNat * (H : Int).toNat * (D : Int).toNat) = true := by assumption
                     ((have hs : fiOk ws (f1, f2, f3) st (W : Int) (H : Int) (D : Int) = true := fiOk_yes (by assumption) m1 m2 (by assumption) (by assumption)); exact ⟨(p51.1, p51.2), by simp only [fiF_yes hs, fiS_yes hs, fiI_yes hs, fiL_yes hs, hs, fiK_length]; rfl, by rw [fiL_yes hs]; exact (hw.pick (by apply Pick.one; repeat (first | exact Rem.here | apply Rem.there))).out1⟩))
                  | ((have hs : fiOk ws (f1, f2, f3) st (W : Int) (H : Int) (D : Int) = false := by first | exact fiOk_no5 (by assumption)); exact ⟨(none, 0), by simp only [fiF_no hs, fiS_no hs, fiI_no hs, fiL_no hs, hs]; rfl, hw.below, by rw [fiL_no hs]; simp [vl, Ent.at], List.pairwise_singleton _ _⟩)
                  | ((have hs : fiOk ws (f1, f2, f3) st wi hi de = false := by first | exact fiOk_no1 (by assumption) | exact fiOk_no2 (by assumption) | exact fiOk_no3 (by assumption) | exact fiOk_no4 (by assumption) | exact fiOk_no4 (szOk_no1 (by assumption)).symm | exact fiOk_no4 (szOk_no2 (by assumption)).symm | exact fiOk_no4 (szOk_no3 (by assumption)).symm | exact fiOk_no4 (szOk_no4 (by omega))); exact ⟨(none, 0), by simp only [fiF_no hs, fiS_no hs, fiI_no hs, fiL_no hs, hs]; rfl, hw.below, by rw [fiL_no hs]; simp [vl, Ent.at], List.pairwise_singleton _ _⟩)
                  | (have hm9 : (fin3 (f1, f2, f3) && above st) = false := by
                       cases h8 : fin3 (f1, f2, f3)
                       · rfl
                       · cases h9 : above st
                         · rfl
                         · exfalso
                           have := meshOk_last (n := W * H * D) h8 h9 hsz
                           rw [hm] at this
                           have e9 : icmp .eql ((W * H * D : Nat) : Int) ((W : Int) * (H : Int) * (D : Int)) = true := by show (_ == _) = true; rw [beq_iff_eq]; norm_cast
                           rw [e9] at this; cases this
                     rcases Bool.and_eq_false_iff.1 hm9 with h9 | h9
                     · ((have hs : fiOk ws (f1, f2, f3) st (W : Int) (H : Int) (D : Int) = false := by first | exact fiOk_no2 h9); exact ⟨(none, 0), by simp only [fiF_no hs, fiS_no hs, fiI_no hs, fiL_no hs, hs]; rfl, hw.below, by rw [fiL_no hs]; simp [vl, Ent.at], List.pairwise_singleton _ _⟩)
                     · ((have hs : fiOk ws (f1, f2, f3) st (W : Int) (H : Int) (D : Int) = false := by first | exact fiOk_no3 h9); exact ⟨(none, 0), by simp only [fiF_no hs, fiS_no hs, fiI_no hs, fiL_no hs, hs]; rfl, hw.below, by rw [fiL_no hs]; simp [vl, Ent.at], List.pairwise_singleton _ _⟩))

end Go.Proofs.Ytfeciemlhiclbaa


namespace Go.Proofs.Ytfeciemlhiclbaa
open Go.RowKit
set_option linter.unusedVariables false
set_option linter.unusedSimpArgs false
set_option maxRecDepth 20000




end Go.Proofs.Ytfeciemlhiclbaa


namespace Go.Proofs.Ytfeciemlhiclbaa
open Go.RowKit
set_option linter.unusedVariables false
set_option linter.unusedSimpArgs false
set_option maxRecDepth 20000




end Go.Proofs.Ytfeciemlhiclbaa


namespace Go.Proofs.Ytfeciemlhiclbaa
open Go.RowKit

/-! ### the worst miss -/
end Go.Proofs.Ytfeciemlhiclbaa


namespace Go.Proofs.Ytfeciemlhiclbaa
open Go.RowKit
set_option linter.unusedVariables false
set_option linter.unusedSimpArgs false
set_option maxRecDepth 20000

theorem ext54_Worst : ExtF Try.prog 54 Extern.MathFloatBits.float64bits := ⟨_, Try.func54, by kernel_rfl, by kernel_rfl, by kernel_rfl, by kernel_rfl⟩
theorem ext53_Worst : ExtF Try.prog 53 Extern.MathFloatBits.float64frombits := ⟨_, Try.func53, by kernel_rfl, by kernel_rfl, by kernel_rfl, by kernel_rfl⟩

theorem c_abs {w : World} (x : Nat) : Pure Try.prog 38 [.float .f64 x] w (.float .f64 (fabs .f64 x)) := by
  refine Pure.enter Try.func38 rfl Try.ntmps38 (Nat.le_of_ble_eq_true rfl) ?_
  refine V.seq ?_
  refine V.region ?_
  refine VL.r (.inl rfl) rfl (by decide) (yr_assign (u := .float .f64 0) rfl rfl) ?_
  refine VL.nil ?_
  refine VE.then_wp ?_
  refine V.seq ?_
  refine V.region ?_
  refine VL.r (.inl rfl) rfl (by decide) (yr_move rfl rfl) ?_
  refine VL.new (.inl rfl) rfl (by decide) (extN rfl ext54_Worst (.cons rfl .nil) (fun vs w h => ext_bitsN h)) ?_
  rintro ⟨b4, hb4⟩
  refine VL.r (.inl rfl) rfl (by decide) (yr_andNot63 rfl rfl rfl) ?_
  refine VL.q (.inl rfl) rfl (by decide) (yq_ext rfl ext53_Worst (.cons rfl .nil) (fun vs w h => ext_from64 vs w h)) ?_
  refine VL.r (.inl rfl) rfl (by decide) (yr_assign rfl rfl) ?_
  refine VL.nil ?_
  refine VE.then_wp ?_
  refine V.ret ?_
  refine ret1 rfl rfl (fun w1 hw => ?_)
  exact ⟨congrArg (Value.float .f64) (by rw [cb_abs64, hb4]), hw.below⟩

end Go.Proofs.Ytfeciemlhiclbaa


namespace Go.Proofs.Ytfeciemlhiclbaa
open Go.RowKit Go.ChangeShapes Go.WideShapes Go.Deep

section
variable {H : Type} {enc : TypeId × Value → H} {P : Program} {w : World} {base : Nat} {spare : Nat → Bool} {held : Bool}

end
end Go.Proofs.Ytfeciemlhiclbaa


namespace Go.Proofs.Ytfeciemlhiclbaa
open Go.RowKit Go.ChangeShapes Go.WideShapes Go.Deep

section
variable {H : Type} {enc : TypeId × Value → H} {P : Program} {w : World} {base : Nat} {spare : Nat → Bool} {held : Bool}

end
end Go.Proofs.Ytfeciemlhiclbaa


namespace Go.Proofs.Ytfeciemlhiclbaa
open Go.RowKit

def mk0 (k0 : Int) (ws : List Wr) (i : Nat) : Int := k0 + ((wsum ws i * 3 + i * 2 : Nat) : Int)
def mrents (t : TypeId) (k0 : Int) (f : Nat → Option Addr × Nat) (ws : List Wr) (k : Nat) : List Ent := (List.range k).map fun i => ⟨(f i).1, fl (marks (mk0 k0 ws i) ((ws.getD i zw).1.length * 3)), (f i).2 * 3, t⟩
section
variable {t : TypeId} {k0 : Int} {f : Nat → Option Addr × Nat} {ws : List Wr} {k i : Nat}
theorem mrents_mem (h : i < k) : (⟨(f i).1, fl (marks (mk0 k0 ws i) ((ws.getD i zw).1.length * 3)), (f i).2 * 3, t⟩ : Ent) ∈ mrents t k0 f ws k := List.mem_map.2 ⟨i, by simpa using h, rfl⟩
end
/-- Each wire's points carry their marks. -/
def MRws (w : World) (k0 : Int) (f : Nat → Option Addr × Nat) (ws : List Wr) : Prop := ∀ i, i < ws.length → Cl w (f i).1 (fl (marks (mk0 k0 ws i) ((ws.getD i zw).1.length * 3)))
theorem MRws.below {w w' : World} {k0 : Int} {f : Nat → Option Addr × Nat} {ws : List Wr} (h : MRws w k0 f ws) (hb : Below w.heap.size w w') : MRws w' k0 f ws := fun i hi => (h i hi).below hb
theorem MRws.root {w0 w : World} {O : List Ent} {k0 : Int} {f : Nat → Option Addr × Nat} {ws : List Wr} (h : MRws w0 k0 f ws) (hw : Hp w0 O w) : MRws w k0 f ws := h.below hw.below
inductive MRowsIn : List Ent → TypeId → Int → (Nat → Option Addr × Nat) → List Wr → Prop
  | here {t : TypeId} {k0 : Int} {f : Nat → Option Addr × Nat} {ws : List Wr} {O : List Ent} : MRowsIn (mrents t k0 f ws ws.length ++ O) t k0 f ws
  | last {t : TypeId} {k0 : Int} {f : Nat → Option Addr × Nat} {ws : List Wr} : MRowsIn (mrents t k0 f ws ws.length) t k0 f ws
  | there {t : TypeId} {k0 : Int} {f : Nat → Option Addr × Nat} {ws : List Wr} {e : Ent} {O : List Ent} : MRowsIn O t k0 f ws → MRowsIn (e :: O) t k0 f ws
  | thereS {t : TypeId} {k0 : Int} {f : Nat → Option Addr × Nat} {ws : List Wr} {S O : List Ent} : MRowsIn O t k0 f ws → MRowsIn (S ++ O) t k0 f ws
theorem MRowsIn.mem {O : List Ent} {t : TypeId} {k0 : Int} {f : Nat → Option Addr × Nat} {ws : List Wr} (h : MRowsIn O t k0 f ws) : ∀ i, i < ws.length → (⟨(f i).1, fl (marks (mk0 k0 ws i) ((ws.getD i zw).1.length * 3)), (f i).2 * 3, t⟩ : Ent) ∈ O := by
  induction h with
  | here => exact fun i hi => List.mem_append_left _ (mrents_mem hi)
  | last => exact fun i hi => mrents_mem hi
  | there _ ih => exact fun i hi => List.mem_cons_of_mem _ (ih i hi)
  | thereS _ ih => exact fun i hi => List.mem_append_right _ (ih i hi)
theorem MRws.own {w0 w : World} {O : List Ent} {t : TypeId} {k0 : Int} {f : Nat → Option Addr × Nat} {ws : List Wr} (h : MRowsIn O t k0 f ws) (hw : Hp w0 O w) : MRws w k0 f ws := fun i hi => Sees.own (h.mem i hi) w hw
end Go.Proofs.Ytfeciemlhiclbaa


namespace Go.Proofs.Ytfeciemlhiclbaa
open Go.RowKit
set_option linter.unusedVariables false
set_option linter.unusedSimpArgs false
set_option maxRecDepth 20000

attribute [local irreducible] fop fcmp fconv sqrt32 fneg segF List.getD


end Go.Proofs.Ytfeciemlhiclbaa


namespace Go.Proofs.Ytfeciemlhiclbaa
open Go.RowKit

section
variable {ws : List Wr} {x : List Nat} {k : Nat} {g : Nat → Option Addr × Nat} {t : TypeId}
end
section
variable {ws : List Wr} {x : List Nat} {k : Nat}
end
end Go.Proofs.Ytfeciemlhiclbaa


namespace Go.Proofs.Ytfeciemlhiclbaa
open Go.RowKit

/-! ### lists one behind the other -/
section
variable {P : Program} {w0 : World} {O : List Ent} {E : Env} {o : Oper}
end

/-! ### sizes -/
/-! ### what is merged -/
section
variable {xss yss : List (List Nat)} {ws gs vs hs : List Nat}
end

/-! ### one row more -/
theorem Rws.one {w : World} {p : Option Addr × Nat} {xs : List Nat} (h : Cl w p.1 (fl xs)) : Rws w (fun _ => p) [xs] := by
  intro i hi
  have : i = 0 := by simpa using hi
  subst this
  exact h
/-! ### a column scaled -/
section
variable {xss : List (List Nat)} {ws gs : List Nat} {j : Int} {by' : Nat}
end
end Go.Proofs.Ytfeciemlhiclbaa


namespace Go.Proofs.Ytfeciemlhiclbaa
open Go.RowKit
set_option linter.unusedVariables false
set_option linter.unusedSimpArgs false
set_option maxRecDepth 20000

theorem zero27_SetC : (Try.prog.info? 27).bind (·.zero) = some (Value.agg #[Value.slice none 0 0, Value.bool false, Value.float .f32 0]) := by kernel_rfl
theorem sz27_SetC : (Try.prog.info? 27).map (·.size) = some 3 := by kernel_rfl
theorem known39_SetC : Known Try.prog 39 := Known.mk' Try.func39 (by kernel_rfl)
attribute [local irreducible] fop fcmp fconv sqrt32 fneg segF List.getD

theorem c_ifWire {w : World} {a : Option Addr} {c : Nat} {ps : List V3} {cl : Bool} {cur : Nat} (hA : Cl w a (vl ps)) (hn : ps.length ≤ 1050000) (hok : wireOk (ps, cl, cur) = true) : Pure Try.prog 19 [.agg #[.slice a ps.length c, .bool cl, .float .f32 cur]] w (.tuple #[.agg #[.slice a ps.length c, .bool cl, .float .f32 cur], .bool true]) := by
  refine Pure.enter Try.func19 rfl Try.ntmps19 (Nat.le_of_ble_eq_true rfl) ?_
  refine V.seq ?_
  refine V.region ?_
  refine VL.new1 (.inl rfl) rfl (by decide) (yn_box rfl rfl (.inr ⟨rfl, rfl⟩)) ?_
  intro b1
  refine VL.new1 (.inl rfl) rfl (by decide) (yn_alloc rfl zero27_SetC rfl) ?_
  intro b2
  refine VL.r (.inl rfl) rfl (by decide) (yr_assign (u := .bool false) rfl rfl) ?_
  refine VL.nil ?_
  refine VE.then_wp ?_
  refine V.seq ?_
  refine V.seq ?_
  refine V.region ?_
  refine VL.q (.inl rfl) rfl (by decide) (yq_loadS rfl Try.underlying27 sz27_SetC rfl (by first | exact Sees.root (by assumption) | exact Sees.own (by repeat (first | exact List.mem_cons_self | exact List.mem_append_left _ (by assumption) | apply List.mem_cons_of_mem | apply List.mem_append_right)) | exact Sees.root (hR _ (by omega)) | exact Sees.own (RowsIn.mem (by repeat (first | exact RowsIn.here | exact RowsIn.last | apply RowsIn.there | apply RowsIn.thereS)) _ (by omega)) | exact Sees.own (WRowsIn.mem (by repeat (first | exact WRowsIn.here | exact WRowsIn.last | apply WRowsIn.there | apply WRowsIn.thereS)) _ (by omega))) rfl rfl rfl) ?_
  refine VL.q (.inl rfl) rfl (by decide) (yq_callf rfl known39_SetC (.cons rfl .nil) (fun w hw => (c_implWire (by first | exact Sees.root (by assumption) w hw | exact Sees.own (by repeat (first | exact List.mem_cons_self | exact List.mem_append_left _ (by assumption) | apply List.mem_cons_of_mem | apply List.mem_append_right)) w hw) (by omega)))) ?_
  refine VL.r (.inl rfl) rfl (by decide) (yr_not rfl rfl) ?_
  refine VL.nil ?_
  refine VE.then_wp ?_
  refine V.cond rfl (fun h1 => ?_) (fun h1 => ?_)
  · skip
    replace h1 := bnot_t h1
    (rw [hok] at h1; cases h1)
  · skip
    replace h1 := bnot_f h1
    refine V.skip ?_
    refine VE.then_wp ?_
    refine V.seq ?_
    refine V.region ?_
    refine VL.q (.inl rfl) rfl (by decide) (yq_loadS rfl Try.underlying27 sz27_SetC rfl (by first | exact Sees.root (by assumption) | exact Sees.own (by repeat (first | exact List.mem_cons_self | exact List.mem_append_left _ (by assumption) | apply List.mem_cons_of_mem | apply List.mem_append_right)) | exact Sees.root (hR _ (by omega)) | exact Sees.own (RowsIn.mem (by repeat (first | exact RowsIn.here | exact RowsIn.last | apply RowsIn.there | apply RowsIn.thereS)) _ (by omega)) | exact Sees.own (WRowsIn.mem (by repeat (first | exact WRowsIn.here | exact WRowsIn.last | apply WRowsIn.there | apply WRowsIn.thereS)) _ (by omega))) rfl rfl rfl) ?_
    refine VL.s (.inl rfl) rfl (yc_store rfl sz27_SetC rfl rfl (by repeat (first | exact UpdF.here | apply UpdF.there | apply UpdF.thereS)) (.inr ⟨rfl, rfl⟩) rfl (by first | exact Nat.le_of_ble_eq_true rfl | simp) (by decide) rfl) ?_
    rintro ⟨⟩
    refine VL.r (.inl rfl) rfl (by decide) (yr_assign (u := .bool true) rfl rfl) ?_
    refine VL.nil ?_
    refine VE.then_wp ?_
    refine V.ret ?_
    refine retN rfl (.cons (rv_cellS rfl Try.underlying27 sz27_SetC (by first | exact Sees.root (by assumption) | exact Sees.own (by repeat (first | exact List.mem_cons_self | exact List.mem_append_left _ (by assumption) | apply List.mem_cons_of_mem | apply List.mem_append_right)) | exact Sees.root (hR _ (by omega)) | exact Sees.own (RowsIn.mem (by repeat (first | exact RowsIn.here | exact RowsIn.last | apply RowsIn.there | apply RowsIn.thereS)) _ (by omega)) | exact Sees.own (WRowsIn.mem (by repeat (first | exact WRowsIn.here | exact WRowsIn.last | apply WRowsIn.there | apply WRowsIn.thereS)) _ (by omega))) rfl rfl rfl) (.cons (rv_tmp rfl (by nofun)) .nil)) (by nofun) (fun w1 hw => ?_)
    exact ⟨rfl, hw.below⟩

end Go.Proofs.Ytfeciemlhiclbaa


namespace Go.Proofs.Ytfeciemlhiclbaa
open Go.RowKit

/-- how many units 1/128 has -/
def dyU : FloatKind → Nat
  | .f32 => 142
  | .f64 => 1067
/-- The places behind the point. -/
def dyF : FloatKind → Nat
  | .f32 => 23
  | .f64 => 52
theorem binade_is (k : FloatKind) : k.format.binade = 2 ^ dyF k := by cases k <;> decide
theorem dyF_le (k : FloatKind) : 23 ≤ dyF k ∧ dyF k ≤ dyU k := by cases k <;> decide
theorem infRung_is (k : FloatKind) : k.format.infRung = (if k = .f32 then 255 else 2047) * 2 ^ dyF k := by cases k <;> decide
/-- n/128 is a number of the format. -/
theorem dy_rep (k : FloatKind) {n : Nat} (h : n < 2 ^ 24) : ∃ r, r < k.format.infRung ∧ units k.format r = n * 2 ^ dyU k := by
  by_cases h0 : n = 0
  · subst h0
    exact ⟨0, by cases k <;> decide, by rw [(units_zero k.format).2 rfl, Nat.zero_mul]⟩
  · have hl : n.log2 ≤ 23 := by
      have := (Nat.log2_lt h0).2 h
      omega
    obtain ⟨f1, f2⟩ := dyF_le k
    have hb := binade_is k
    generalize hF : dyF k = F at *
    generalize hU : dyU k = U at *
    have h1 := Nat.log2_self_le h0
    have h2 : n < 2 ^ (n.log2 + 1) := Nat.lt_log2_self
    -- the number, shifted to the format's places
    have m1 : 2 ^ F ≤ n * 2 ^ (F - n.log2) := by
      calc 2 ^ F = 2 ^ n.log2 * 2 ^ (F - n.log2) := by rw [← Nat.pow_add]; congr 1; omega
        _ ≤ n * 2 ^ (F - n.log2) := Nat.mul_le_mul_right _ h1
    have m2 : n * 2 ^ (F - n.log2) < 2 ^ F * 2 := by
      calc n * 2 ^ (F - n.log2) < 2 ^ (n.log2 + 1) * 2 ^ (F - n.log2) := Nat.mul_lt_mul_of_pos_right h2 (pow_pos' _)
        _ = 2 ^ F * 2 := by rw [← Nat.pow_add, ← Nat.pow_succ]; congr 1; omega
    generalize hm : n * 2 ^ (F - n.log2) = m at *
    have hp := pow_pos' F
    refine ⟨(U - F + n.log2 + 1) * 2 ^ F + (m - 2 ^ F), ?_, ?_⟩
    · rw [infRung_is, hF]
      have hc : U - F + n.log2 + 2 ≤ (if k = .f32 then 255 else 2047) := by
        cases k
        · simp [dyU, dyF] at hU hF; subst hU; subst hF; simp; omega
        · simp [dyU, dyF] at hU hF; subst hU; subst hF; simp; omega
      have := Nat.mul_le_mul_right (2 ^ F) hc
      have e : (U - F + n.log2 + 2) * 2 ^ F = (U - F + n.log2 + 1) * 2 ^ F + 2 ^ F := by rw [← Nat.succ_mul]
      omega
    · have hr : (U - F + n.log2 + 1) * 2 ^ F ≥ 2 ^ F := Nat.le_mul_of_pos_left _ (by omega)
      unfold units
      rw [hb, if_neg (by omega)]
      have e1 : ((U - F + n.log2 + 1) * 2 ^ F + (m - 2 ^ F)) % 2 ^ F = m - 2 ^ F := by
        rw [Nat.add_comm, Nat.add_mul_mod_self_right, Nat.mod_eq_of_lt (by omega)]
      have e2 : ((U - F + n.log2 + 1) * 2 ^ F + (m - 2 ^ F)) / 2 ^ F = U - F + n.log2 + 1 := by
        rw [Nat.add_comm, Nat.add_mul_div_right _ _ hp, Nat.div_eq_of_lt (by omega), Nat.zero_add]
      rw [e1, e2, show 2 ^ F + (m - 2 ^ F) = m by omega, ← hm, Nat.mul_assoc, ← Nat.pow_add]
      congr 2
      omega
/-- The word x is v/128. -/
def dy (k : FloatKind) (x : Nat) (v : Int) : Prop := x < 2 ^ k.format.width ∧ rng k.format x < k.format.infRung ∧ sval k.format x = v * 2 ^ dyU k
section
variable {k : FloatKind} {x y : Nat} {a b c : Int}
theorem dy_word (s : Bool) {n : Nat} (h : n < 2 ^ 24) {v : Int} (hv : v = if s then -(n : Int) else (n : Int)) : ∃ r, r < k.format.infRung ∧ units k.format r = n * 2 ^ dyU k ∧ dy k (k.format.word s r) v := by
  obtain ⟨r, h1, h2⟩ := dy_rep k h
  obtain ⟨w1, w2⟩ := rng_word k s (Nat.le_of_lt h1)
  refine ⟨r, h1, h2, ?_, by rw [w1]; exact h1, ?_⟩
  · have hw : k.format.infRung < k.format.signWeight := by cases k <;> decide
    rw [width_pos]
    unfold Ieee.Format.word
    split <;> omega
  · unfold sval
    rw [w2, w1, h2, hv]
    cases s <;> simp [Int.neg_mul]
theorem fnan_fin (h : rng k.format x < k.format.infRung) : fnan k x = false := by rw [fnan_rng]; exact decide_eq_false (by omega)
theorem dy.num (h : dy k x a) : fnan k x = false := fnan_fin h.2.1
/-- a sum, in units -/
theorem sum_units (hx : rng k.format x < k.format.infRung) (hy : rng k.format y < k.format.infRung) (t : Bool) : ∃ (s : Bool) (M q : Nat), ((k.format.read x).sum (if t then (k.format.read y).opposite else k.format.read y)) = some (.number s M (k.format.leastPlace + (q : Int))) ∧
    M * 2 ^ q = (sval k.format x + (if t then -sval k.format y else sval k.format y)).natAbs ∧ (s = true → sval k.format x + (if t then -sval k.format y else sval k.format y) ≤ 0) ∧ (s = false → 0 ≤ sval k.format x + (if t then -sval k.format y else sval k.format y)) := by
  obtain ⟨m, e, h1, h2⟩ := read_number k.format hx
  obtain ⟨n, d, h3, h4⟩ := read_number k.format hy
  have hs : ∀ t : Bool, (if t then (k.format.read y).opposite else k.format.read y) = .number (sgn k.format y ^^ t) n (k.format.leastPlace + (d : Nat)) := by
    intro t; rw [h3]; cases t <;> simp [Ieee.Datum.opposite]
  rw [hs, h1]
  simp only [Ieee.Datum.sum, signed_val]
  generalize hc : min e d = q
  have hmin : min (k.format.leastPlace + (e : Int)) (k.format.leastPlace + (d : Int)) = k.format.leastPlace + (q : Int) := by omega
  rw [hmin]
  have e1 : (k.format.leastPlace + (e : Int) - (k.format.leastPlace + (q : Int))).toNat = e - q := by omega
  have e2 : (k.format.leastPlace + (d : Int) - (k.format.leastPlace + (q : Int))).toNat = d - q := by omega
  rw [e1, e2]
  have g1 : m * 2 ^ (e - q) * 2 ^ q = units k.format (rng k.format x) := by rw [← h2, Nat.mul_assoc, ← Nat.pow_add]; congr 2; omega
  have g2 : n * 2 ^ (d - q) * 2 ^ q = units k.format (rng k.format y) := by rw [← h4, Nat.mul_assoc, ← Nat.pow_add]; congr 2; omega
  have hv : sval k.format x + (if t then -sval k.format y else sval k.format y) = ((if sgn k.format x = true then -((m * 2 ^ (e - q) : Nat) : Int) else ((m * 2 ^ (e - q) : Nat) : Int)) + (if (sgn k.format y ^^ t) = true then -((n * 2 ^ (d - q) : Nat) : Int) else ((n * 2 ^ (d - q) : Nat) : Int))) * ((2 ^ q : Nat) : Int) := by
    unfold sval
    rw [← g1, ← g2]
    generalize m * 2 ^ (e - q) = A
    generalize n * 2 ^ (d - q) = B
    generalize 2 ^ q = C
    rw [Int.add_mul]
    cases sgn k.format x <;> cases sgn k.format y <;> cases t <;> simp [Int.neg_mul]
  rw [hv]
  generalize (if sgn k.format x = true then -((m * 2 ^ (e - q) : Nat) : Int) else ((m * 2 ^ (e - q) : Nat) : Int)) + (if (sgn k.format y ^^ t) = true then -((n * 2 ^ (d - q) : Nat) : Int) else ((n * 2 ^ (d - q) : Nat) : Int)) = T
  have hp : (0 : Int) < ((2 ^ q : Nat) : Int) := by exact_mod_cast pow_pos' q
  refine ⟨_, _, q, rfl, by rw [Int.natAbs_mul]; rfl, fun h => ?_, fun h => ?_⟩
  · have : T ≤ 0 := by
      split at h
      · omega
      · have := of_decide_eq_true h; omega
    exact Int.mul_nonpos_of_nonpos_of_nonneg this (Int.le_of_lt hp)
  · have : 0 ≤ T := by
      split at h
      · omega
      · have := of_decide_eq_false h; omega
    exact Int.mul_nonneg this (Int.le_of_lt hp)
theorem dy_write {s : Bool} {M q : Nat} {X v : Int} (hM : M * 2 ^ q = X.natAbs) (hX : X = v * 2 ^ dyU k) (h1 : s = true → X ≤ 0) (h2 : s = false → 0 ≤ X) (hv : v.natAbs < 2 ^ 24) : dy k (k.format.write (.number s M (k.format.leastPlace + (q : Int)))) v := by
  have hp : (0 : Int) < 2 ^ dyU k := Int.pow_pos (by decide)
  have hsv : v = if s then -(v.natAbs : Int) else (v.natAbs : Int) := by
    cases s
    · have : 0 ≤ v := by
        have := h2 rfl
        rw [hX] at this
        exact Int.le_of_mul_le_mul_right (by rw [Int.zero_mul]; exact this) hp
      simp; omega
    · have : v ≤ 0 := by
        have := h1 rfl
        rw [hX] at this
        exact Int.le_of_mul_le_mul_right (by rw [Int.zero_mul]; exact this) hp
      simp; omega
  obtain ⟨r, g1, g2, g3⟩ := dy_word (k := k) s hv hsv
  have hw : k.format.write (.number s M (k.format.leastPlace + (q : Int))) = k.format.word s r := by
    show k.format.nearest s M _ = _
    refine nearest_units k.format s (a := 0) (b := q) (Nat.le_of_lt g1) (by omega) ?_
    rw [hM, hX, g2, Int.natAbs_mul, Int.natAbs_pow, Nat.pow_zero, Nat.mul_one]; rfl
  rw [hw]; exact g3
theorem dy_add (hx : dy k x a) (hy : dy k y b) (h : (a + b).natAbs < 2 ^ 24) : dy k (fop .add k x y) (a + b) := by
  obtain ⟨s, M, q, e1, e2, e3, e4⟩ := sum_units hx.2.1 hy.2.1 false
  unfold fop floatBits Ieee.Format.add
  simp only [Bool.false_eq_true, if_false] at e1 e2 e3 e4
  simp only [e1, Option.map_some, Option.getD_some]
  exact dy_write e2 (by rw [hx.2.2, hy.2.2, Int.add_mul]) e3 e4 h
theorem dy.units (hx : dy k x a) : Go.Proofs.Ytfeciemlhiclbaa.units k.format (rng k.format x) = a.natAbs * 2 ^ dyU k := by
  have := congrArg Int.natAbs hx.2.2
  rw [Int.natAbs_mul, Int.natAbs_pow] at this
  unfold sval at this
  split at this <;> simpa using this
theorem dy.sgn (hx : dy k x a) : (Go.Proofs.Ytfeciemlhiclbaa.sgn k.format x = true → a ≤ 0) ∧ (Go.Proofs.Ytfeciemlhiclbaa.sgn k.format x = false → 0 ≤ a) := by
  have hp : (0 : Int) < 2 ^ dyU k := Int.pow_pos (by decide)
  have := hx.2.2
  unfold sval at this
  constructor <;> intro hs <;> rw [hs] at this
  · have h0 : a * 2 ^ dyU k ≤ 0 := by rw [← this]; simp
    exact Int.le_of_mul_le_mul_right (by rw [Int.zero_mul]; exact h0) hp
  · have h0 : 0 ≤ a * 2 ^ dyU k := by rw [← this]; simp
    exact Int.le_of_mul_le_mul_right (by rw [Int.zero_mul]; exact h0) hp
end
end Go.Proofs.Ytfeciemlhiclbaa


namespace Go.Proofs.Ytfeciemlhiclbaa
open Go.RowKit

theorem cut_even_ge (s : Bool) {n d q : Nat} (h : q * 2 ^ d ≤ n) : q ≤ Ieee.Toward.even.cut s n d := by
  unfold Ieee.Toward.cut
  simp only [Nat.shiftLeft_eq, Nat.one_mul]
  by_cases hd : d ≤ n.log2 + 2
  · rw [Nat.min_eq_left hd]
    have hlow : q ≤ n / 2 ^ d := (Nat.le_div_iff_mul_le (pow_pos' d)).2 h
    omega
  · have hlt : n < 2 ^ d := Nat.lt_of_lt_of_le (lt_log2 n) (Nat.pow_le_pow_right (by decide) (by omega))
    have : q = 0 := by
      rcases Nat.eq_zero_or_pos q with h0 | h0
      · exact h0
      · have := Nat.mul_le_mul_right (2 ^ d) h0
        rw [Nat.one_mul] at this
        omega
    rw [this]; exact Nat.zero_le _
/-- What is not less than the number of a word is written as no lesser word. -/
theorem nearest_ge (f : Ieee.Format) (s : Bool) {m r a b : Nat} {e : Int} (hr : r ≤ f.infRung) (he : e + a = f.leastPlace + b) (h : units f r * 2 ^ a ≤ m * 2 ^ b) : ∃ r', f.nearest s m e = f.word s r' ∧ r ≤ r' ∧ r' ≤ f.infRung := by
  unfold Ieee.Format.nearest
  have hb : 0 < f.binade := pow_pos' _
  have hbe : f.binade = 2 ^ f.fractionBits := rfl
  by_cases hm : m = 0
  · rw [if_pos hm]
    refine ⟨0, rfl, ?_, Nat.zero_le _⟩
    rw [hm, Nat.zero_mul] at h
    have hu : units f r = 0 := by
      have := Nat.le_of_lt_succ (Nat.lt_succ_of_le h)
      rcases Nat.eq_zero_or_pos (units f r) with h0 | h0
      · exact h0
      · have := Nat.mul_pos h0 (pow_pos' a); omega
    have := (units_zero f).1 hu
    omega
  rw [if_neg hm]
  refine ⟨_, rfl, Nat.le_min.2 ⟨?_, hr⟩, Nat.min_le_right _ _⟩
  obtain ⟨t, ht⟩ : ∃ t : Nat, max (e + (m.log2 : Int) - (f.fractionBits : Int)) f.leastPlace = f.leastPlace + (t : Int) :=
    ⟨(max (e + (m.log2 : Int) - (f.fractionBits : Int)) f.leastPlace - f.leastPlace).toNat, by omega⟩
  simp only [ht]
  have e1 : (f.leastPlace + (t : Int) - f.leastPlace).toNat = t := by omega
  rw [e1]
  have key : ∀ q : Nat, q * 2 ^ t * 2 ^ a ≤ m * 2 ^ b → q ≤ Ieee.Toward.even.cut s (m <<< (e - (f.leastPlace + t)).toNat) ((f.leastPlace + t) - e).toNat := by
    intro q hqt
    rw [Nat.mul_assoc, ← Nat.pow_add] at hqt
    rcases Nat.le_total (t + a) b with hle | hle
    · have g1 : (e - (f.leastPlace + t)).toNat = b - (t + a) := by omega
      have g2 : ((f.leastPlace + t) - e).toNat = 0 := by omega
      rw [g1, g2, cut_zero, shl_eq]
      have h9 : q * 2 ^ (t + a) ≤ m * 2 ^ (b - (t + a)) * 2 ^ (t + a) := by
        rw [Nat.mul_assoc m, ← Nat.pow_add, show b - (t + a) + (t + a) = b by omega]; exact hqt
      exact Nat.le_of_mul_le_mul_right h9 (pow_pos' _)
    · have g1 : (e - (f.leastPlace + t)).toNat = 0 := by omega
      have g2 : ((f.leastPlace + t) - e).toNat = t + a - b := by omega
      have : t + a = (t + a - b) + b := by omega
      rw [this, Nat.pow_add, ← Nat.mul_assoc] at hqt
      have hm' := Nat.le_of_mul_le_mul_right hqt (pow_pos' b)
      rw [g1, g2, shl_eq, Nat.pow_zero, Nat.mul_one]
      exact cut_even_ge s hm'
  have hfull : 1 ≤ t → f.binade ≤ Ieee.Toward.even.cut s (m <<< (e - (f.leastPlace + t)).toNat) ((f.leastPlace + t) - e).toNat := by
    intro h1
    refine key _ ?_
    have h2 := Nat.log2_self_le hm
    have h3 : f.fractionBits + t + a = b + m.log2 := by omega
    rw [hbe, ← Nat.pow_add, ← Nat.pow_add, h3, Nat.pow_add, Nat.mul_comm]
    exact Nat.mul_le_mul_right _ h2
  by_cases hrb : r < f.binade
  · have hur : units f r = r := by unfold units; rw [if_pos hrb]
    rcases Nat.eq_zero_or_pos t with h0 | h0
    · subst h0
      have := key r (by rw [Nat.pow_zero, Nat.mul_one, ← hur]; exact h)
      omega
    · have := hfull h0
      omega
  · have hq1 : 1 ≤ r / f.binade := (Nat.le_div_iff_mul_le hb).2 (by omega)
    have hmod := Nat.mod_lt r hb
    have hur : units f r = (f.binade + r % f.binade) * 2 ^ (r / f.binade - 1) := by unfold units; rw [if_neg hrb]
    have hqne : f.binade + r % f.binade ≠ 0 := by omega
    have hlg : (units f r).log2 = f.fractionBits + (r / f.binade - 1) := by
      rw [hur, log2_mul_pow hqne]
      congr 1
      rw [Nat.log2_eq_iff hqne]
      rw [Nat.pow_succ, ← hbe]
      omega
    have hu : units f r ≠ 0 := by rw [hur]; exact Nat.mul_ne_zero hqne (Nat.ne_of_gt (pow_pos' _))
    have hl : (units f r).log2 + a ≤ m.log2 + b := by
      have := log2_mono h
      rwa [log2_mul_pow hm b, log2_mul_pow hu a] at this
    have hT : r / f.binade - 1 ≤ t := by omega
    have e2 := Nat.div_add_mod r f.binade
    rw [Nat.mul_comm] at e2
    rcases Nat.lt_or_eq_of_le hT with hlt | heq
    · have h4 := hfull (by omega)
      have h5 : (r / f.binade) * f.binade ≤ t * f.binade := Nat.mul_le_mul_right _ (by omega)
      omega
    · have hk := key (f.binade + r % f.binade) (by rw [← heq, ← hur]; exact h)
      have h5 : (t + 1) * f.binade = r / f.binade * f.binade := by congr 1; omega
      rw [Nat.add_mul, Nat.one_mul] at h5
      omega
/-- n steps of a grid are a number of single precision. -/
theorem er_rep {n c : Nat} (h : n ≤ 2 ^ 24) (hc : c ≤ 200) : ∃ r, r < FloatKind.f32.format.infRung ∧ units FloatKind.f32.format r = n * 2 ^ c := by
  have hb : FloatKind.f32.format.binade = 2 ^ 23 := by decide
  have hi : FloatKind.f32.format.infRung = 255 * 2 ^ 23 := by decide
  by_cases h0 : n < 2 ^ 24
  · by_cases h1 : n = 0
    · subst h1
      exact ⟨0, by decide, by rw [(units_zero _).2 rfl, Nat.zero_mul]⟩
    have hl : n.log2 ≤ 23 := by have := (Nat.log2_lt h1).2 h0; omega
    have g1 := Nat.log2_self_le h1
    have g2 : n < 2 ^ (n.log2 + 1) := Nat.lt_log2_self
    -- shift left until 24 bits are there, or until the grid is the least one
    obtain ⟨d, hd, hdc⟩ : ∃ d, d ≤ c ∧ (d = c ∧ n * 2 ^ d < 2 ^ 24 ∨ 2 ^ 23 ≤ n * 2 ^ d ∧ n * 2 ^ d < 2 ^ 24) := by
      by_cases hcl : c ≤ 23 - n.log2
      · refine ⟨c, Nat.le_refl _, .inl ⟨rfl, ?_⟩⟩
        calc n * 2 ^ c < 2 ^ (n.log2 + 1) * 2 ^ c := Nat.mul_lt_mul_of_pos_right g2 (pow_pos' _)
          _ = 2 ^ (n.log2 + 1 + c) := by rw [← Nat.pow_add]
          _ ≤ 2 ^ 24 := Nat.pow_le_pow_right (by decide) (by omega)
      · refine ⟨23 - n.log2, by omega, .inr ⟨?_, ?_⟩⟩
        · calc 2 ^ 23 = 2 ^ n.log2 * 2 ^ (23 - n.log2) := by rw [← Nat.pow_add]; congr 1; omega
            _ ≤ _ := Nat.mul_le_mul_right _ g1
        · calc n * 2 ^ (23 - n.log2) < 2 ^ (n.log2 + 1) * 2 ^ (23 - n.log2) := Nat.mul_lt_mul_of_pos_right g2 (pow_pos' _)
            _ = 2 ^ 24 := by rw [← Nat.pow_add]; congr 1; omega
    have hmul : n * 2 ^ c = n * 2 ^ d * 2 ^ (c - d) := by rw [Nat.mul_assoc, ← Nat.pow_add]; congr 2; omega
    rw [hmul]
    generalize n * 2 ^ d = m at hdc
    by_cases hm : m < 2 ^ 23
    · have hd2 : d = c := by rcases hdc with h2 | h2 <;> omega
      refine ⟨m, by rw [hi]; omega, ?_⟩
      unfold units
      rw [hb, if_pos hm, hd2, Nat.sub_self, Nat.pow_zero, Nat.mul_one]
    · have hm2 : m < 2 ^ 24 := by rcases hdc with h2 | h2 <;> omega
      refine ⟨(c - d + 1) * 2 ^ 23 + (m - 2 ^ 23), by rw [hi]; omega, ?_⟩
      unfold units
      rw [hb, if_neg (by omega)]
      have e1 : ((c - d + 1) * 2 ^ 23 + (m - 2 ^ 23)) % 2 ^ 23 = m - 2 ^ 23 := by
        rw [Nat.add_comm, Nat.add_mul_mod_self_right, Nat.mod_eq_of_lt (by omega)]
      have e2 : ((c - d + 1) * 2 ^ 23 + (m - 2 ^ 23)) / 2 ^ 23 = c - d + 1 := by
        rw [Nat.add_comm, Nat.add_mul_div_right _ _ (by decide), Nat.div_eq_of_lt (by omega), Nat.zero_add]
      rw [e1, e2, show 2 ^ 23 + (m - 2 ^ 23) = m by omega, Nat.add_sub_cancel]
  · obtain rfl : n = 2 ^ 24 := by omega
    refine ⟨(c + 2) * 2 ^ 23, by rw [hi]; omega, ?_⟩
    unfold units
    rw [hb, if_neg (by omega), Nat.mul_mod_left, Nat.mul_div_cancel _ (by decide), Nat.add_zero, show c + 2 - 1 = 1 + c by omega, Nat.pow_add, ← Nat.mul_assoc]
/-- Written: not farther than a step of the grid. -/
theorem er_core (s : Bool) {m a b c : Nat} {e : Int} (hc : c ≤ 200) (he : e + a = FloatKind.f32.format.leastPlace + b) (h : m * 2 ^ b ≤ 2 ^ 24 * 2 ^ c * 2 ^ a) :
    ∃ r, FloatKind.f32.format.nearest s m e = FloatKind.f32.format.word s r ∧ r < FloatKind.f32.format.infRung ∧ units FloatKind.f32.format r * 2 ^ a ≤ m * 2 ^ b + 2 ^ c * 2 ^ a ∧ m * 2 ^ b ≤ units FloatKind.f32.format r * 2 ^ a + 2 ^ c * 2 ^ a := by
  have hp : 0 < 2 ^ c * 2 ^ a := Nat.mul_pos (pow_pos' _) (pow_pos' _)
  generalize hG : 2 ^ c * 2 ^ a = G at *
  rw [Nat.mul_assoc, hG] at h
  generalize hN : m * 2 ^ b = N at *
  have hn1 : N / G ≤ 2 ^ 24 := Nat.div_le_of_le_mul (by rw [Nat.mul_comm]; exact h)
  have hdm := Nat.div_add_mod N G
  have hml := Nat.mod_lt N hp
  obtain ⟨r1, a1, a2⟩ := er_rep hn1 hc
  obtain ⟨t1, b1, b2, b3⟩ := nearest_ge FloatKind.f32.format s (m := m) (r := r1) (a := a) (b := b) (Nat.le_of_lt a1) he (by rw [a2, Nat.mul_assoc, hG, hN, Nat.mul_comm]; omega)
  -- the upper one
  obtain ⟨r2, c1, c2, c3⟩ : ∃ r2, r2 < FloatKind.f32.format.infRung ∧ N ≤ units FloatKind.f32.format r2 * 2 ^ a ∧ units FloatKind.f32.format r2 * 2 ^ a ≤ N + G := by
    by_cases hz : N % G = 0
    · exact ⟨r1, a1, by rw [a2, Nat.mul_assoc, hG, Nat.mul_comm]; omega, by rw [a2, Nat.mul_assoc, hG, Nat.mul_comm]; omega⟩
    · have hn2 : N / G + 1 ≤ 2 ^ 24 := by
        rcases Nat.lt_or_ge (N / G) (2 ^ 24) with h1 | h1
        · exact h1
        · have : G * (2 ^ 24) ≤ G * (N / G) := Nat.mul_le_mul_left _ h1
          rw [Nat.mul_comm] at this
          omega
      obtain ⟨r2, d1, d2⟩ := er_rep hn2 hc
      have e2 : (N / G + 1) * G = G * (N / G) + G := by rw [Nat.add_mul, Nat.one_mul, Nat.mul_comm]
      exact ⟨r2, d1, by rw [d2, Nat.mul_assoc, hG, e2]; omega, by rw [d2, Nat.mul_assoc, hG, e2]; omega⟩
  obtain ⟨t2, d1, d2⟩ := nearest_le FloatKind.f32.format s (m := m) (r := r2) (a := a) (b := b) he (by rw [hN]; exact c2)
  have ht : t1 = t2 := by
    have h1 := rng_word .f32 s (r := t1) b3
    have h2 := rng_word .f32 s (r := t2) (by omega)
    rw [← h1.1, ← h2.1, ← b1, ← d1]
  subst ht
  have m1 := Nat.mul_le_mul_right (2 ^ a) (units_mono FloatKind.f32.format b2)
  have m2 := Nat.mul_le_mul_right (2 ^ a) (units_mono FloatKind.f32.format d2)
  rw [a2, Nat.mul_assoc, hG, Nat.mul_comm] at m1
  exact ⟨t1, b1, by omega, by omega, by omega⟩
end Go.Proofs.Ytfeciemlhiclbaa


namespace Go.Proofs.Ytfeciemlhiclbaa
open Go.RowKit

/-- A step: 2^-24 in units of the least place. One is 2^24 steps. -/
def UU : Int := ((2 ^ 125 : Nat) : Int)
theorem UU_pos : 0 < UU := by unfold UU; exact_mod_cast pow_pos' 125
theorem UU_big {k : Nat} {K : Int} (hK : ((2 ^ k : Nat) : Int) = K) : K * (16777216 * UU) = ((2 ^ 24 * 2 ^ (125 + k) : Nat) : Int) ∧ K * UU = ((2 ^ (125 + k) : Nat) : Int) := by
  have e : 2 ^ k * 2 ^ 125 = 2 ^ (125 + k) := by rw [← Nat.pow_add, Nat.add_comm]
  have e2 : K * UU = ((2 ^ (125 + k) : Nat) : Int) := by rw [← hK, UU, ← Int.natCast_mul, e]
  refine ⟨?_, e2⟩
  rw [Int.mul_left_comm, e2, Int.natCast_mul]
  congr 1
theorem BB_is : (16777216 : Int) * UU = ((2 ^ 149 : Nat) : Int) := by
  have := (UU_big (k := 24) (K := 16777216) (by decide)).2
  rw [this]
/-- The word x is X units. -/
def apx (x : Nat) (X : Int) : Prop := x < 2 ^ FloatKind.f32.format.width ∧ rng FloatKind.f32.format x < FloatKind.f32.format.infRung ∧ sval FloatKind.f32.format x = X
section
variable {x y : Nat} {X Y : Int}
theorem er_word (s : Bool) {r : Nat} (hr : r < FloatKind.f32.format.infRung) : apx (FloatKind.f32.format.word s r) (if s then -(units FloatKind.f32.format r : Int) else (units FloatKind.f32.format r : Int)) := by
  obtain ⟨w1, w2⟩ := rng_word .f32 s (Nat.le_of_lt hr)
  refine ⟨?_, by rw [w1]; exact hr, ?_⟩
  · have hw : FloatKind.f32.format.infRung < FloatKind.f32.format.signWeight := by decide
    rw [width_pos]
    unfold Ieee.Format.word
    split <;> omega
  · unfold sval
    rw [w2, w1]
theorem apx_dy {v : Int} (h : dy .f32 x v) : apx x (v * 2 ^ dyU .f32) := ⟨h.1, h.2.1, h.2.2⟩
theorem apx.num (h : apx x X) : fnan .f32 x = false := fnan_fin h.2.1
theorem apx.units (h : apx x X) : units FloatKind.f32.format (rng FloatKind.f32.format x) = X.natAbs := by
  have := congrArg Int.natAbs h.2.2
  unfold sval at this
  split at this <;> simpa using this
theorem apx.sgn (h : apx x X) : (sgn FloatKind.f32.format x = true → X ≤ 0) ∧ (sgn FloatKind.f32.format x = false → 0 ≤ X) := by
  have := h.2.2
  unfold sval at this
  constructor <;> intro hs <;> rw [hs] at this <;> simp at this <;> omega
theorem er_sign {s : Bool} {N u c : Nat} {V : Int} (hN : V.natAbs = N) (h1 : s = true → V ≤ 0) (h2 : s = false → 0 ≤ V) (h3 : u ≤ N + c) (h4 : N ≤ u + c) :
    V - (c : Int) ≤ (if s then -(u : Int) else (u : Int)) ∧ (if s then -(u : Int) else (u : Int)) ≤ V + (c : Int) := by
  cases s
  · have := h2 rfl
    simp only [Bool.false_eq_true, if_false]
    omega
  · have := h1 rfl
    simp only [if_true]
    omega
theorem er_sum (t : Bool) (k : Nat) {K : Int} (hK : ((2 ^ k : Nat) : Int) = K) (hk : k ≤ 70) (hx : apx x X) (hy : apx y Y) (h1 : -(K * (16777216 * UU)) ≤ X + (if t then -Y else Y)) (h2 : X + (if t then -Y else Y) ≤ K * (16777216 * UU)) :
    ∃ Z, apx (((((FloatKind.f32.format.read x).sum (if t then (FloatKind.f32.format.read y).opposite else FloatKind.f32.format.read y)).map FloatKind.f32.format.write).getD (qn .f32))) Z ∧ X + (if t then -Y else Y) - K * UU ≤ Z ∧ Z ≤ X + (if t then -Y else Y) + K * UU := by
  obtain ⟨s, M, q, e1, e2, e3, e4⟩ := sum_units hx.2.1 hy.2.1 t
  rw [hx.2.2, hy.2.2] at e2 e3 e4
  generalize X + (if t then -Y else Y) = V at *
  obtain ⟨g1, g2⟩ := UU_big hK
  rw [g1] at h1 h2
  rw [g2]
  have hn : M * 2 ^ q ≤ 2 ^ 24 * 2 ^ (125 + k) * 2 ^ 0 := by rw [e2, Nat.pow_zero, Nat.mul_one]; omega
  obtain ⟨r, r1, r2, r3, r4⟩ := er_core s (a := 0) (b := q) (e := FloatKind.f32.format.leastPlace + (q : Int)) (by omega) (by omega) hn
  rw [Nat.pow_zero, Nat.mul_one, Nat.mul_one, e2] at r3 r4
  have hw : (((FloatKind.f32.format.read x).sum (if t then (FloatKind.f32.format.read y).opposite else FloatKind.f32.format.read y)).map FloatKind.f32.format.write).getD (qn .f32) = FloatKind.f32.format.word s r := by
    rw [e1]; exact r1
  rw [hw]
  exact ⟨_, er_word s r2, er_sign rfl e3 e4 r3 r4⟩
theorem er_add (k : Nat) {K : Int} (hK : ((2 ^ k : Nat) : Int) = K) (hk : k ≤ 70) (hx : apx x X) (hy : apx y Y) (h1 : -(K * (16777216 * UU)) ≤ X + Y) (h2 : X + Y ≤ K * (16777216 * UU)) : ∃ Z, apx (fop .add .f32 x y) Z ∧ X + Y - K * UU ≤ Z ∧ Z ≤ X + Y + K * UU :=
  er_sum false k hK hk hx hy h1 h2
theorem er_sub (k : Nat) {K : Int} (hK : ((2 ^ k : Nat) : Int) = K) (hk : k ≤ 70) (hx : apx x X) (hy : apx y Y) (h1 : -(K * (16777216 * UU)) ≤ X - Y) (h2 : X - Y ≤ K * (16777216 * UU)) : ∃ Z, apx (fop .sub .f32 x y) Z ∧ X - Y - K * UU ≤ Z ∧ Z ≤ X - Y + K * UU := by
  obtain ⟨Z, z1, z2, z3⟩ := er_sum true k hK hk hx hy (by simp only [if_true]; omega) (by simp only [if_true]; omega)
  simp only [if_true] at z2 z3
  exact ⟨Z, z1, by omega, by omega⟩
theorem sgn_xor (hx : apx x X) (hy : apx y Y) : ((sgn FloatKind.f32.format x ^^ sgn FloatKind.f32.format y) = true → X * Y ≤ 0) ∧ ((sgn FloatKind.f32.format x ^^ sgn FloatKind.f32.format y) = false → 0 ≤ X * Y) := by
  have sa := hx.sgn
  have sb := hy.sgn
  cases hsx : sgn FloatKind.f32.format x <;> cases hsy : sgn FloatKind.f32.format y
  · exact ⟨by simp, fun _ => Int.mul_nonneg (sa.2 hsx) (sb.2 hsy)⟩
  · exact ⟨fun _ => Int.mul_nonpos_of_nonneg_of_nonpos (sa.2 hsx) (sb.1 hsy), by simp⟩
  · exact ⟨fun _ => Int.mul_nonpos_of_nonpos_of_nonneg (sa.1 hsx) (sb.2 hsy), by simp⟩
  · exact ⟨by simp, fun _ => Int.mul_nonneg_of_nonpos_of_nonpos (sa.1 hsx) (sb.1 hsy)⟩
theorem lp32 : FloatKind.f32.format.leastPlace = -149 := by decide
theorem er_mul (k : Nat) {K : Int} (hK : ((2 ^ k : Nat) : Int) = K) (hk : k ≤ 70) (hx : apx x X) (hy : apx y Y) (h1 : -(K * (16777216 * UU) * (16777216 * UU)) ≤ X * Y) (h2 : X * Y ≤ K * (16777216 * UU) * (16777216 * UU)) :
    ∃ Z, apx (fop .mul .f32 x y) Z ∧ X * Y - K * UU * (16777216 * UU) ≤ Z * (16777216 * UU) ∧ Z * (16777216 * UU) ≤ X * Y + K * UU * (16777216 * UU) := by
  obtain ⟨m, e, a1, a2⟩ := read_number FloatKind.f32.format hx.2.1
  obtain ⟨n, d, b1, b2⟩ := read_number FloatKind.f32.format hy.2.1
  rw [hx.units] at a2
  rw [hy.units] at b2
  obtain ⟨g1, g2⟩ := UU_big hK
  have g3 := BB_is
  rw [g1] at h1 h2
  rw [g2]
  rw [g3] at h1 h2 ⊢
  rw [← Int.natCast_mul] at h1 h2
  have hxy : (X * Y).natAbs = m * n * 2 ^ (e + d) := by rw [Int.natAbs_mul, ← a2, ← b2, Nat.pow_add]; simp only [Nat.mul_assoc, Nat.mul_left_comm]
  have hn : m * n * 2 ^ (e + d) ≤ 2 ^ 24 * 2 ^ (125 + k) * 2 ^ 149 := by rw [← hxy]; omega
  obtain ⟨r, r1, r2, r3, r4⟩ := er_core (sgn FloatKind.f32.format x ^^ sgn FloatKind.f32.format y) (a := 149) (b := e + d) (e := FloatKind.f32.format.leastPlace + (e : Int) + (FloatKind.f32.format.leastPlace + (d : Int))) (by omega) (by rw [lp32]; omega) hn
  have hw : fop .mul .f32 x y = FloatKind.f32.format.word (sgn FloatKind.f32.format x ^^ sgn FloatKind.f32.format y) r := by
    unfold fop floatBits Ieee.Format.mul
    simp only [a1, b1, Ieee.Datum.product, Option.map_some, Option.getD_some]
    exact r1
  rw [hw]
  refine ⟨_, er_word _ r2, ?_⟩
  obtain ⟨s1, s2⟩ := sgn_xor hx hy
  have := er_sign (V := X * Y) hxy s1 s2 r3 r4
  have e9 : (if (sgn FloatKind.f32.format x ^^ sgn FloatKind.f32.format y) = true then -(units FloatKind.f32.format r : Int) else (units FloatKind.f32.format r : Int)) * ((2 ^ 149 : Nat) : Int) =
      (if (sgn FloatKind.f32.format x ^^ sgn FloatKind.f32.format y) = true then -((units FloatKind.f32.format r * 2 ^ 149 : Nat) : Int) else ((units FloatKind.f32.format r * 2 ^ 149 : Nat) : Int)) := by
    split <;> simp only [Int.natCast_mul, Int.neg_mul]
  rw [e9, ← Int.natCast_mul]
  exact this
end
end Go.Proofs.Ytfeciemlhiclbaa


namespace Go.Proofs.Ytfeciemlhiclbaa
open Go.RowKit

set_option maxRecDepth 20000
set_option linter.unusedSimpArgs false
theorem quo_sticky {D n : Nat} (hn : 0 < n) : n * (2 * (D / n) + (D % n != 0).toNat) ≤ 2 * D + n ∧ 2 * D ≤ n * (2 * (D / n) + (D % n != 0).toNat) + n := by
  have h1 := Nat.div_add_mod D n
  have h2 := Nat.mod_lt D hn
  rw [Nat.mul_add, Nat.mul_left_comm]
  by_cases h : D % n = 0
  · rw [h]; simp; omega
  · have : (D % n != 0) = true := by simpa using h
    rw [this]
    simp only [Bool.toNat_true, Nat.mul_one]
    omega
theorem quo_aux {p1 p2 p3 p4 : Nat} (h3 : p1 ≤ 2 * p2 + p3) (h : p2 ≤ p4 * 2 ^ 23) (h2 : p3 ≤ p4) : p1 ≤ p4 * (2 * 2 ^ 24) := by omega
theorem er_quo {x y : Nat} {X Y : Int} (k : Nat) {K : Int} (hK : ((2 ^ k : Nat) : Int) = K) (hk : k ≤ 70) (hx : apx x X) (hy : apx y Y) (hY : 0 < Y) (h1 : -(K * Y) ≤ 2 * X) (h2 : 2 * X ≤ K * Y) :
    ∃ Z, apx (fop .quo .f32 x y) Z ∧ X * (16777216 * UU) - 2 * (K * UU) * Y ≤ Z * Y ∧ Z * Y ≤ X * (16777216 * UU) + 2 * (K * UU) * Y := by
  obtain ⟨m, e, a1, a2⟩ := read_number FloatKind.f32.format hx.2.1
  obtain ⟨n, d, b1, b2⟩ := read_number FloatKind.f32.format hy.2.1
  obtain ⟨s1, s2⟩ := sgn_xor hx hy
  rw [hx.units] at a2
  rw [hy.units] at b2
  rw [(UU_big hK).2, BB_is]
  have hn : 0 < n := by
    rcases Nat.eq_zero_or_pos n with h0 | h0
    · rw [h0, Nat.zero_mul] at b2; omega
    · exact h0
  obtain ⟨S, rfl⟩ : ∃ S : Nat, Y = (S : Int) := ⟨Y.toNat, by omega⟩
  have hS : (((S : Nat) : Int)).natAbs = S := Int.natAbs_natCast S
  rw [hS] at b2
  generalize hA : X.natAbs = A at a2
  have hAS : 2 * A ≤ 2 ^ k * S := by
    rw [← hK, ← Int.natCast_mul] at h1 h2
    omega
  generalize hM : 25 + n.log2 - m.log2 = more
  -- the sticky bit does not matter much
  have hnm : m ≠ 0 → n * 2 ^ 24 ≤ m * 2 ^ more := by
    intro h0
    have g1 := Nat.log2_self_le h0
    have g2 : n < 2 ^ (n.log2 + 1) := Nat.lt_log2_self
    calc n * 2 ^ 24 ≤ 2 ^ (n.log2 + 1) * 2 ^ 24 := Nat.mul_le_mul_right _ (Nat.le_of_lt g2)
      _ = 2 ^ (n.log2 + 25) := by rw [← Nat.pow_add]
      _ ≤ 2 ^ (m.log2 + more) := Nat.pow_le_pow_right (by decide) (by omega)
      _ = 2 ^ m.log2 * 2 ^ more := by rw [← Nat.pow_add]
      _ ≤ _ := Nat.mul_le_mul_right _ g1
  obtain ⟨q1, q2⟩ := quo_sticky (D := m * 2 ^ more) hn
  generalize hMM : 2 * ((m * 2 ^ more) / n) + ((m * 2 ^ more) % n != 0).toNat = M at q1 q2
  -- in common units
  have hb : m * 2 ^ more * 2 ^ (e + 149) = A * 2 ^ more * 2 ^ 149 := by
    rw [← a2, Nat.pow_add]; simp only [Nat.mul_assoc, Nat.mul_comm, Nat.mul_left_comm]
  have ha : n * 2 ^ (d + more + 1) = S * 2 ^ more * 2 := by
    rw [← b2, Nat.pow_succ, Nat.pow_add]; simp only [Nat.mul_assoc]
  have hAS2 : A * 2 ^ more * 2 ^ 149 ≤ S * 2 ^ more * (2 ^ 23 * 2 ^ (125 + k)) := by
    have e3 : 2 ^ 23 * 2 ^ (125 + k) = 2 ^ k * 2 ^ 148 := by rw [← Nat.pow_add, ← Nat.pow_add, show 23 + (125 + k) = k + 148 by omega]
    have e4' : ∀ c : Nat, 2 ^ (c + 1) = 2 * 2 ^ c := fun c => by rw [Nat.pow_succ, Nat.mul_comm]
    have e4 : (2 : Nat) ^ 149 = 2 * 2 ^ 148 := e4' 148
    rw [e3, e4]
    generalize 2 ^ 148 = W at *
    generalize 2 ^ more = V
    calc A * V * (2 * W) = 2 * A * (V * W) := by simp only [Nat.mul_assoc, Nat.mul_comm, Nat.mul_left_comm]
      _ ≤ 2 ^ k * S * (V * W) := Nat.mul_le_mul_right _ hAS
      _ = _ := by simp only [Nat.mul_assoc, Nat.mul_comm, Nat.mul_left_comm]
  have hnb : n * 2 ^ (e + 149) ≤ S * 2 ^ more * 2 ^ (125 + k) ∨ M = 0 := by
    by_cases h0 : m = 0
    · right
      rw [← hMM, h0]; simp
    · left
      have h3 := Nat.mul_le_mul_right (2 ^ (e + 149)) (hnm h0)
      rw [hb] at h3
      have h4 := Nat.le_trans h3 hAS2
      have e5 : S * 2 ^ more * (2 ^ 23 * 2 ^ (125 + k)) = S * 2 ^ more * 2 ^ (125 + k) * 2 ^ 23 := by simp only [Nat.mul_assoc, Nat.mul_comm, Nat.mul_left_comm]
      have e6 : n * 2 ^ 24 * 2 ^ (e + 149) = n * 2 ^ (e + 149) * 2 ^ 24 := by simp only [Nat.mul_assoc, Nat.mul_left_comm, Nat.mul_comm]
      rw [e5, e6] at h4
      generalize n * 2 ^ (e + 149) = p at *
      generalize S * 2 ^ more * 2 ^ (125 + k) = q at *
      omega
  have hcore : M * 2 ^ (e + 149) ≤ 2 ^ 24 * 2 ^ (125 + k) * 2 ^ (d + more + 1) := by
    rcases hnb with hnb | h0
    · refine Nat.le_of_mul_le_mul_left ?_ hn
      have h3 := Nat.mul_le_mul_right (2 ^ (e + 149)) q1
      rw [Nat.add_mul, Nat.mul_assoc 2, hb, Nat.mul_assoc n M] at h3
      have e5 : n * (2 ^ 24 * 2 ^ (125 + k) * 2 ^ (d + more + 1)) = S * 2 ^ more * 2 ^ (125 + k) * (2 * 2 ^ 24) := by
        rw [Nat.mul_left_comm, ha]; simp only [Nat.mul_assoc, Nat.mul_left_comm, Nat.mul_comm]
      have e6 : S * 2 ^ more * (2 ^ 23 * 2 ^ (125 + k)) = S * 2 ^ more * 2 ^ (125 + k) * 2 ^ 23 := by simp only [Nat.mul_assoc, Nat.mul_comm, Nat.mul_left_comm]
      rw [e5]
      rw [e6] at hAS2
      exact quo_aux h3 hAS2 hnb
    · rw [h0, Nat.zero_mul]; exact Nat.zero_le _
  obtain ⟨r, r1, r2, r3, r4⟩ := er_core (sgn FloatKind.f32.format x ^^ sgn FloatKind.f32.format y) (m := M) (a := d + more + 1) (b := e + 149) (c := 125 + k) (e := FloatKind.f32.format.leastPlace + (e : Int) - (FloatKind.f32.format.leastPlace + (d : Int)) - more - 1) (by omega) (by rw [lp32]; omega) hcore
  have hw : fop .quo .f32 x y = FloatKind.f32.format.word (sgn FloatKind.f32.format x ^^ sgn FloatKind.f32.format y) r := by
    have e0 : fop .quo .f32 x y = ((((FloatKind.f32.format.read x).quotient 25 (FloatKind.f32.format.read y)).map FloatKind.f32.format.write).getD (qn .f32)) := rfl
    rw [e0, a1, b1]
    simp only [Ieee.Datum.quotient, if_neg (Nat.ne_of_gt hn), Option.map_some, Option.getD_some, hM]
    rw [← r1, ← hMM, shl_eq]
    rfl
  rw [hw]
  refine ⟨_, er_word _ r2, ?_⟩
  generalize units FloatKind.f32.format r = u at *
  have key : u * S ≤ A * 2 ^ 149 + 2 * 2 ^ (125 + k) * S ∧ A * 2 ^ 149 ≤ u * S + 2 * 2 ^ (125 + k) * S := by
    have t3 := Nat.mul_le_mul_left n r3
    have t4 := Nat.mul_le_mul_left n r4
    have e5 : n * (u * 2 ^ (d + more + 1)) = u * S * (2 ^ more * 2) := by rw [Nat.mul_left_comm, ha]; simp only [Nat.mul_assoc]
    have e6 : n * (2 ^ (125 + k) * 2 ^ (d + more + 1)) = 2 ^ (125 + k) * S * (2 ^ more * 2) := by rw [Nat.mul_left_comm, ha]; simp only [Nat.mul_assoc]
    rw [Nat.mul_add, e5, e6] at t3 t4
    have u1 := Nat.mul_le_mul_right (2 ^ (e + 149)) q1
    have u2 := Nat.mul_le_mul_right (2 ^ (e + 149)) q2
    rw [Nat.add_mul, Nat.mul_assoc 2, hb, Nat.mul_assoc n M] at u1 u2
    have e7 : A * 2 ^ more * 2 ^ 149 = A * 2 ^ 149 * 2 ^ more := by simp only [Nat.mul_assoc, Nat.mul_comm, Nat.mul_left_comm]
    rw [e7] at u1 u2
    have hP : 0 < 2 ^ more * 2 := Nat.mul_pos (pow_pos' _) (by decide)
    have e8 : S * 2 ^ more * 2 ^ (125 + k) = 2 ^ (125 + k) * S * 2 ^ more := by simp only [Nat.mul_assoc, Nat.mul_comm, Nat.mul_left_comm]
    have z1 : ∀ v : Nat, v * (2 ^ more * 2) = 2 * (v * 2 ^ more) := by intro v; simp only [Nat.mul_assoc, Nat.mul_comm, Nat.mul_left_comm]
    have z2 : 2 * 2 ^ (125 + k) * S * (2 ^ more * 2) = 4 * (2 ^ (125 + k) * S * 2 ^ more) := by
      rw [z1, Nat.mul_assoc 2, Nat.mul_assoc 2]; omega
    rcases hnb with hnb | h0
    · rw [e8] at hnb
      refine ⟨Nat.le_of_mul_le_mul_right ?_ hP, Nat.le_of_mul_le_mul_right ?_ hP⟩
      · rw [Nat.add_mul, z2, z1 (A * 2 ^ 149), z1 (u * S)]
        rw [z1 (u * S), z1 (2 ^ (125 + k) * S)] at t3
        generalize u * S * 2 ^ more = v1 at *
        generalize n * (M * 2 ^ (e + 149)) = v2 at *
        generalize 2 ^ (125 + k) * S * 2 ^ more = v3 at *
        generalize A * 2 ^ 149 * 2 ^ more = v4 at *
        generalize n * 2 ^ (e + 149) = v5 at *
        omega
      · rw [Nat.add_mul, z2, z1 (A * 2 ^ 149), z1 (u * S)]
        rw [z1 (u * S), z1 (2 ^ (125 + k) * S)] at t4
        generalize u * S * 2 ^ more = v1 at *
        generalize n * (M * 2 ^ (e + 149)) = v2 at *
        generalize 2 ^ (125 + k) * S * 2 ^ more = v3 at *
        generalize A * 2 ^ 149 * 2 ^ more = v4 at *
        generalize n * 2 ^ (e + 149) = v5 at *
        omega
    · have hA0 : A = 0 := by
        by_cases hm : m = 0
        · rw [← a2, hm, Nat.zero_mul]
        · exfalso
          have g1 := hnm hm
          rw [h0, Nat.mul_zero] at q2
          omega
      rw [h0, Nat.zero_mul, Nat.mul_zero, Nat.zero_add] at t3
      rw [hA0, Nat.zero_mul, Nat.zero_add]
      refine ⟨Nat.le_of_mul_le_mul_right (Nat.le_trans t3 ?_) hP, Nat.zero_le _⟩
      refine Nat.mul_le_mul_right _ ?_
      rw [Nat.mul_assoc]
      omega
  have hXB : (X * ((2 ^ 149 : Nat) : Int)).natAbs = A * 2 ^ 149 := by rw [Int.natAbs_mul, Int.natAbs_natCast, hA]
  have hB : (0 : Int) < ((2 ^ 149 : Nat) : Int) := by exact_mod_cast pow_pos' 149
  have t1 : (sgn FloatKind.f32.format x ^^ sgn FloatKind.f32.format y) = true → X * ((2 ^ 149 : Nat) : Int) ≤ 0 := fun h => by
    have := s1 h
    have : X ≤ 0 := Int.le_of_mul_le_mul_right (by rw [Int.zero_mul]; exact this) hY
    exact Int.mul_nonpos_of_nonpos_of_nonneg this (Int.le_of_lt hB)
  have t2 : (sgn FloatKind.f32.format x ^^ sgn FloatKind.f32.format y) = false → 0 ≤ X * ((2 ^ 149 : Nat) : Int) := fun h => by
    have := s2 h
    have : 0 ≤ X := Int.le_of_mul_le_mul_right (by rw [Int.zero_mul]; exact this) hY
    exact Int.mul_nonneg this (Int.le_of_lt hB)
  have := er_sign (V := X * ((2 ^ 149 : Nat) : Int)) hXB t1 t2 key.1 key.2
  have e9 : (if (sgn FloatKind.f32.format x ^^ sgn FloatKind.f32.format y) = true then -(u : Int) else (u : Int)) * (S : Int) =
      (if (sgn FloatKind.f32.format x ^^ sgn FloatKind.f32.format y) = true then -((u * S : Nat) : Int) else ((u * S : Nat) : Int)) := by
    split <;> simp only [Int.natCast_mul, Int.neg_mul]
  have e10 : 2 * ((2 ^ (125 + k) : Nat) : Int) * (S : Int) = ((2 * 2 ^ (125 + k) * S : Nat) : Int) := by simp only [Int.natCast_mul]; rfl
  rw [e9, e10]
  exact this
end Go.Proofs.Ytfeciemlhiclbaa

